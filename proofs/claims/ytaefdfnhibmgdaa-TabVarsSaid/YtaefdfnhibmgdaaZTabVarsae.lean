/- Printed by a program of this session (wip/pg.py, over the print of the kit): functions, their Lean twins, and the proofs that the calls come to them; each under the conditions that it names. -/
import Derived.Test.YtaefdfnhibmgdaaZTabVarsab
import Derived.Test.YtaefdfnhibmgdaaZTabVarsac
import Derived.Test.YtaefdfnhibmgdaaZTabVarsad
section
/- Printed by a program of this session (wip/pg.py, over the print of the kit): functions, their Lean twins, and the proofs that the calls come to them; each under the conditions that it names. -/
namespace Go.Proofs.Ytaefdfnhibmgdaa.PTab
open Go.Proofs.Ytaefdfnhibmgdaa.Given
open Go.RowKit Go.Proofs.YtaefdfnhibmgdaaW.PrintWords Go.Proofs.YtaefdfnhibmgdaaW.PrintLast Go.Proofs.YtaefdfnhibmgdaaW.PrintMore
attribute [local go_sem] max2_int min2_int max_two min_two max_three min_three max_four min_four   -- for this text's walks alone
set_option linter.unusedVariables false
set_option linter.unusedSimpArgs false

/-! ### tab_PutVars_2: function 47 -/
def tab_PutVars_2.f (l0 : List Int) (a1_0 : ByteArray) (a1_1 : Int) (a1_2 : Int) (a1_3 : Int) (a1_4 : Int) : Option (List Int) := (octet_Text.f l0 a1_0).bind fun t228 => ((octet_Put.f t228 1 a1_1).bind fun t231 => ((octet_Put.f t231 1 a1_2).bind fun t234 => ((octet_Put.f t234 1 a1_3).bind fun t237 => ((octet_Put.f t237 8 a1_4).bind fun t240 => (some t240)))))
def tab_PutVars_2.T2 : Bool × List (List Nat × List Nat) := (true, [([], []), ([], []), ([1], [1]), ([0, 2], [0, 2]), ([], []), ([4], [4]), ([3, 5, 3], [3, 5]), ([], []), ([7], [7]), ([6, 8, 6], [6, 8]), ([9, 9, 0, 1, 2, 3, 4, 5, 6, 7, 8, 9], [0, 9])])
def tab_PutVars_2.B2 : List Nat := [0, 0, 2, 7, 0, 16, 63, 0, 128, 511, 1023]
theorem tab_PutVars_2.tab2 : rtab .any (opsOf Try.f47 2) = tab_PutVars_2.T2 := by kernel_rfl
theorem tab_PutVars_2.bits2 : waitsOk tab_PutVars_2.T2.2 tab_PutVars_2.B2 = true := by kernel_rfl
set_option maxHeartbeats 8000000 in
set_option maxRecDepth 100000 in
theorem tab_PutVars_2.calls (A0 : Option Addr) (c0 : Nat) (l0 : List Int) (a1_0 : ByteArray) (a1_1 : Int) (a1_2 : Int) (a1_3 : Int) (a1_4 : Int) (r : List Int) (w : World) (hr0 : Kd.C (Kd.int .u8) w A0 l0.length l0) (hc0 : l0.length ≤ c0) (h : tab_PutVars_2.f l0 a1_0 a1_1 a1_2 a1_3 a1_4 = some r) :
    Calls Try.prog 47 #[.slice A0 l0.length c0, .agg #[.string a1_0, .int .i64 a1_1, .int .i64 a1_2, .int .i64 a1_3, .int .i64 a1_4]] w fun e w' => ∃ v0_ : Value, e = .returned (v0_) ∧ Kd.R (Kd.int .u8) 5 w' w.heap.size (fun _ => True) v0_ r ∧ Below w.heap.size w w' := by
  have hu42 := Try.underlying42
  have HR0 := Aside0.mk hr0
  have HC0 := Aside0.mk hc0
  clear hr0 hc0
  have HB := Aside0.mk (Below.refl w.heap.size w)
  have H : ((octet_Text.f l0 a1_0).bind fun t228 => ((octet_Put.f t228 1 a1_1).bind fun t231 => ((octet_Put.f t231 1 a1_2).bind fun t234 => ((octet_Put.f t234 1 a1_3).bind fun t237 => ((octet_Put.f t237 8 a1_4).bind fun t240 => (some t240)))))) = some r := h
  clear h
  replace H := Option.bind_eq_some_iff.mp H
  obtain ⟨t228, A30, H⟩ := H
  replace H : ((octet_Put.f t228 1 a1_1).bind fun t231 => ((octet_Put.f t231 1 a1_2).bind fun t234 => ((octet_Put.f t234 1 a1_3).bind fun t237 => ((octet_Put.f t237 8 a1_4).bind fun t240 => (some t240))))) = some r := H
  have A3 := Aside0.mk A30
  clear A30
  replace H := Option.bind_eq_some_iff.mp H
  obtain ⟨t231, A40, H⟩ := H
  replace H : ((octet_Put.f t231 1 a1_2).bind fun t234 => ((octet_Put.f t234 1 a1_3).bind fun t237 => ((octet_Put.f t237 8 a1_4).bind fun t240 => (some t240)))) = some r := H
  have A4 := Aside0.mk A40
  clear A40
  replace H := Option.bind_eq_some_iff.mp H
  obtain ⟨t234, A50, H⟩ := H
  replace H : ((octet_Put.f t234 1 a1_3).bind fun t237 => ((octet_Put.f t237 8 a1_4).bind fun t240 => (some t240))) = some r := H
  have A5 := Aside0.mk A50
  clear A50
  replace H := Option.bind_eq_some_iff.mp H
  obtain ⟨t237, A60, H⟩ := H
  replace H : ((octet_Put.f t237 8 a1_4).bind fun t240 => (some t240)) = some r := H
  have A6 := Aside0.mk A60
  clear A60
  replace H := Option.bind_eq_some_iff.mp H
  obtain ⟨t240, A70, H⟩ := H
  replace H : (some t240) = some r := H
  have A7 := Aside0.mk A70
  clear A70
  obtain rfl := Option.some.inj H
  go_enter Try.func47, Try.ntmps47
  try go_wp2_with (first | ((with_reducible refine gate_dst (N := 3) rfl ?_); refine box_event ?hg (N := 3) ?hd (cs := #[.string a1_0, .int .i64 a1_1, .int .i64 a1_2, .int .i64 a1_3, .int .i64 a1_4]) (t := 42) ?hr ?_; (case hd => rfl); (case hg => rfl); (case hr => first | (go_simp; done) | (go_simp; rfl)); intro gb227 hg w8 hbox hb; have n0_ := Aside0.mk (below_step (by repeat (first | (with_reducible first | exact HB.out | apply below_alloc | apply pw_below_drewN | apply below_drew1) | exact HB.out)) hb); have n1_ := Aside0.mk (hbox); have n2_ := Aside0.mk ((by rw [hg]; exact (below_size (by repeat (first | (with_reducible first | exact HB.out | apply below_alloc | apply pw_below_drewN | apply below_drew1) | exact HB.out))) : w.heap.size ≤ gb227)); have n3_ := Aside0.mk ((by rw [hg]; exact (below_size (by repeat (first | (with_reducible first | exact HB.out | apply below_alloc | apply pw_below_drewN | apply below_drew1) | exact HB.out))) : w.heap.size ≤ gb227)); clear HB; have HB := n0_; have BK227 := n1_; have GW227 := n2_; have GE227 := n3_; clear n0_ n1_ n2_ n3_; clear hb hbox hg; have hcz9_0 : w8.cell? ⟨gb227, 0, none⟩ = some (.string a1_0) := (blk_cell BK227.out 0).trans rfl; have hcz9_1 : w8.cell? ⟨gb227, 1, none⟩ = some (.int .i64 a1_1) := (blk_cell BK227.out 1).trans rfl; have hcz9_2 : w8.cell? ⟨gb227, 2, none⟩ = some (.int .i64 a1_2) := (blk_cell BK227.out 2).trans rfl; have hcz9_3 : w8.cell? ⟨gb227, 3, none⟩ = some (.int .i64 a1_3) := (blk_cell BK227.out 3).trans rfl; have hcz9_4 : w8.cell? ⟨gb227, 4, none⟩ = some (.int .i64 a1_4) := (blk_cell BK227.out 4).trans rfl; have hfz9_0 := blk_frozen BK227.out 0; have hfz9_1 := blk_frozen BK227.out 1; have hfz9_2 := blk_frozen BK227.out 2; have hfz9_3 := blk_frozen BK227.out 3; have hfz9_4 := blk_frozen BK227.out 4) | ((with_reducible refine gate_callee (f := 39) rfl ?_); refine goesL_ (some 8) rfl rfl Try.func39 (by kernel_rfl) rfl #[.slice A0 l0.length c0, .string a1_0] rfl (by (try simp only [List.map_toArray, List.map_cons, List.map_nil]); first | done | rfl | (simp only [List.length_drop, List.length_take]; rfl)) ?_; (with_reducible refine (octet_Text.calls _ _ l0 a1_0 t228 _ ?side1 ?side2 A3.out).mono ?_); (case side1 => repeat (first | exact (Kd.C_below HR0.out HB.out) | (with_reducible refine Kd.C_alloc ?_ _) | (with_reducible refine Kd.C_drewN ?_ _) | (with_reducible refine Kd.C_drew ?_))); (case side2 => exact HC0.out); rintro e w10 ⟨v229, rfl, ho0, hb⟩; refine ⟨_, rfl, ?_⟩; have n0_ := Aside0.mk (Kd.R_lower ho0 (below_size (by repeat (first | (with_reducible first | exact HB.out | apply below_alloc | apply pw_below_drewN | apply below_drew1 | refine below_set ?_ GE227.out) | exact HB.out)))); have n1_ := Aside0.mk (blk_below (g := gb227) (o := .cells #[.string a1_0, .int .i64 a1_1, .int .i64 a1_2, .int .i64 a1_3, .int .i64 a1_4] 42 (0, 0)) (by (with_reducible repeat (first | refine blk_drewN ?_ _ | refine blk_drew ?_ | refine blk_alloc ?_ _)); exact BK227.out) hb); have n2_ := Aside0.mk (below_step (by repeat (first | (with_reducible first | exact HB.out | apply below_alloc | apply pw_below_drewN | apply below_drew1 | refine below_set ?_ GE227.out) | exact HB.out)) hb); clear BK227; clear HB; have HO230 := n0_; have BK227 := n1_; have HB := n2_; clear n0_ n1_ n2_; (try clear hb); (try clear hb2); (try clear hk); (try clear hi); (try clear ho0)))
  have n0_ := Aside0.mk (Kd.R_drew HO230.out)
  have n1_ := Aside0.mk (blk_drew BK227.out)
  have n2_ := Aside0.mk (below_drew1 HB.out)
  clear HO230
  clear BK227
  clear HB
  have HO230 := n0_
  have BK227 := n1_
  have HB := n2_
  clear n0_ n1_ n2_
  obtain ⟨Ao12, co12, eo12⟩ := Kd.R_slice HO230.out
  (first | subst eo12 | (injection eo12 with f1_ f2_ f3_; have f4_ := f1_.symm; have f5_ := f3_.symm; clear f1_ f2_ f3_; subst f4_; subst f5_))
  refine start_ (n := 11) (S := fun w' => w'.cell? ⟨gb227, 0, none⟩ = some (.string a1_0) ∧ w'.cell? ⟨gb227, 1, none⟩ = some (.int .i64 a1_1) ∧ w'.cell? ⟨gb227, 2, none⟩ = some (.int .i64 a1_2) ∧ w'.cell? ⟨gb227, 3, none⟩ = some (.int .i64 a1_3) ∧ w'.cell? ⟨gb227, 4, none⟩ = some (.int .i64 a1_4)) (ds := []) #[false, false, false, false, false, false, false, false, false, false, false] (by kernel_rfl) rfl rfl ⟨(blk_cell BK227.out 0).trans rfl, (blk_cell BK227.out 1).trans rfl, (blk_cell BK227.out 2).trans rfl, (blk_cell BK227.out 3).trans rfl, (blk_cell BK227.out 4).trans rfl⟩ (fun hHeld => ?_); refine with_tabW tab_PutVars_2.tab2 tab_PutVars_2.bits2 (fun HT_ HW_ => ?_)
  generalize w10.drew = w11 at HO230 BK227 HB hHeld ⊢
  refine pure_ (i := 0) (N := some 9) (v := ?_) (a' := ?_) #[true, false, false, false, false, false, false, false, false, false, false] rfl rfl (any_of HT_.out (by kernel_rfl)) (fun _ _ _ h => h) (Or.inl ⟨by rfl, ?_⟩) ?_ ?_
  rotate_left
  · intro w'
    go_simp
    with_reducible rfl
  rotate_left
  · simp only [Act.put, List.setIfInBounds_toArray, List.set_cons_zero, List.set_cons_succ, i64_w, i32_w]
    rfl
  refine pure_ (i := 1) (N := some 10) (v := ?_) (a' := ?_) #[true, true, false, false, false, false, false, false, false, false, false] rfl rfl (any_of HT_.out (by kernel_rfl)) (fun _ _ _ h => h) (Or.inl ⟨by rfl, ?_⟩) ?_ ?_
  rotate_left
  · intro w'
    go_simp
    with_reducible rfl
  rotate_left
  · simp only [Act.put, List.setIfInBounds_toArray, List.set_cons_zero, List.set_cons_succ, i64_w, i32_w]
    rfl
  refine pure_ (i := 4) (N := some 13) (v := ?_) (a' := ?_) #[true, true, false, false, true, false, false, false, false, false, false] rfl rfl (any_of HT_.out (by kernel_rfl)) (fun _ _ _ h => h) (Or.inl ⟨by rfl, ?_⟩) ?_ ?_
  rotate_left
  · intro w'
    go_simp
    with_reducible rfl
  rotate_left
  · simp only [Act.put, List.setIfInBounds_toArray, List.set_cons_zero, List.set_cons_succ, i64_w, i32_w]
    rfl
  refine pure_ (i := 7) (N := some 16) (v := ?_) (a' := ?_) #[true, true, false, false, true, false, false, true, false, false, false] rfl rfl (any_of HT_.out (by kernel_rfl)) (fun _ _ _ h => h) (Or.inl ⟨by rfl, ?_⟩) ?_ ?_
  rotate_left
  · intro w'
    go_simp
    with_reducible rfl
  rotate_left
  · simp only [Act.put, List.setIfInBounds_toArray, List.set_cons_zero, List.set_cons_succ, i64_w, i32_w]
    rfl
  refine take_ (i := 2) (N := some 11) (v := ?_) (a' := ?_) #[true, true, true, false, true, false, false, true, false, false, false] rfl rfl (take_ofW HT_.out HW_.out (by kernel_rfl)) (fun _ _ _ h => h) (Or.inl ⟨by rfl, ?_⟩) hHeld ?_ ?_
  rotate_left
  · rintro w' ⟨s0, s1, s2, s3, s4⟩
    go_simp
    with_reducible rfl
  rotate_left
  · simp only [Act.put, List.setIfInBounds_toArray, List.set_cons_zero, List.set_cons_succ, i64_w, i32_w]
    rfl
  refine take_ (i := 5) (N := some 14) (v := ?_) (a' := ?_) #[true, true, true, false, true, true, false, true, false, false, false] rfl rfl (take_ofW HT_.out HW_.out (by kernel_rfl)) (fun _ _ _ h => h) (Or.inl ⟨by rfl, ?_⟩) hHeld ?_ ?_
  rotate_left
  · rintro w' ⟨s0, s1, s2, s3, s4⟩
    go_simp
    with_reducible rfl
  rotate_left
  · simp only [Act.put, List.setIfInBounds_toArray, List.set_cons_zero, List.set_cons_succ, i64_w, i32_w]
    rfl
  refine take_ (i := 8) (N := some 17) (v := ?_) (a' := ?_) #[true, true, true, false, true, true, false, true, true, false, false] rfl rfl (take_ofW HT_.out HW_.out (by kernel_rfl)) (fun _ _ _ h => h) (Or.inl ⟨by rfl, ?_⟩) hHeld ?_ ?_
  rotate_left
  · rintro w' ⟨s0, s1, s2, s3, s4⟩
    go_simp
    with_reducible rfl
  rotate_left
  · simp only [Act.put, List.setIfInBounds_toArray, List.set_cons_zero, List.set_cons_succ, i64_w, i32_w]
    rfl
  refine one_ (i := 3) (N := some 12) #[true, true, true, true, true, true, false, true, true, false, false] rfl rfl (one_of HT_.out (by kernel_rfl)) (by decide) (fun K hK => ?_)
  refine goes_ Try.func26 (by kernel_rfl) rfl #[.slice Ao12 t228.length co12, .int .i64 1, .int .i64 a1_1] (by rfl) rfl rfl (by (try simp only [List.map_toArray, List.map_cons, List.map_nil]); first | done | rfl | (simp only [List.length_drop, List.length_take]; rfl)) ?_
  with_reducible refine (octet_Put.calls _ _ t228 1 a1_1 t231 _ ?side1 ?side2 A4.out).mono ?_
  (case side1 => repeat (first | exact (Kd.R_reads' HO230.out).2.2 | (with_reducible refine Kd.C_alloc ?_ _) | (with_reducible refine Kd.C_drewN ?_ _) | (with_reducible refine Kd.C_drew ?_)))
  (case side2 => exact (Kd.R_reads' HO230.out).2.1)
  rintro e w13 ⟨v232, rfl, ho0, hb⟩
  refine ⟨_, rfl, ?_⟩
  have n0_ := Aside0.mk (Kd.R_elder' (by (with_reducible repeat (first | apply Kd.R_alloc | apply Kd.R_drewN | apply Kd.R_drew)); exact HO230.out) (Kd.R_base ho0) hb)
  have n1_ := Aside0.mk (Kd.R_lower (Kd.R_new' ho0 (Kd.R_lt (by (with_reducible repeat (first | apply Kd.R_alloc | apply Kd.R_drewN | apply Kd.R_drew)); exact HO230.out))) (below_size (by repeat (first | (with_reducible first | exact HB.out | apply below_alloc | apply pw_below_drewN | apply below_drew1 | refine below_set ?_ GE227.out) | exact HB.out))))
  have n2_ := Aside0.mk (blk_below (g := gb227) (o := .cells #[.string a1_0, .int .i64 a1_1, .int .i64 a1_2, .int .i64 a1_3, .int .i64 a1_4] 42 (0, 0)) (by (with_reducible repeat (first | refine blk_drewN ?_ _ | refine blk_drew ?_ | refine blk_alloc ?_ _)); exact BK227.out) hb)
  have n3_ := Aside0.mk (below_step (by repeat (first | (with_reducible first | exact HB.out | apply below_alloc | apply pw_below_drewN | apply below_drew1 | refine below_set ?_ GE227.out) | exact HB.out)) hb)
  clear HO230
  clear BK227
  clear HB
  have HO230 := n0_
  have HO233 := n1_
  have BK227 := n2_
  have HB := n3_
  clear n0_ n1_ n2_ n3_
  (try clear hb)
  (try clear hb2)
  (try clear hk)
  (try clear hi)
  (try clear ho0)
  obtain ⟨Ao14, co14, eo14⟩ := Kd.R_slice HO233.out
  (first | subst eo14 | (injection eo14 with f1_ f2_ f3_; have f4_ := f1_.symm; have f5_ := f3_.symm; clear f1_ f2_ f3_; subst f4_; subst f5_))
  refine hK.out _ _ ⟨(blk_cell BK227.out 0).trans rfl, (blk_cell BK227.out 1).trans rfl, (blk_cell BK227.out 2).trans rfl, (blk_cell BK227.out 3).trans rfl, (blk_cell BK227.out 4).trans rfl⟩ (fun hHeld => ?_)
  clear hK K
  refine norm_ (a' := ?_) ?_ ?_
  rotate_left
  · show Act.put _ (some 12) _ = _
    simp only [Act.put, List.setIfInBounds_toArray, List.set_cons_zero, List.set_cons_succ, i64_w, i32_w]
    rfl
  refine one_ (i := 6) (N := some 15) #[true, true, true, true, true, true, true, true, true, false, false] rfl rfl (one_of HT_.out (by kernel_rfl)) (by decide) (fun K hK => ?_)
  refine goes_ Try.func26 (by kernel_rfl) rfl #[.slice Ao14 t231.length co14, .int .i64 1, .int .i64 a1_2] (by rfl) rfl rfl (by (try simp only [List.map_toArray, List.map_cons, List.map_nil]); first | done | rfl | (simp only [List.length_drop, List.length_take]; rfl)) ?_
  with_reducible refine (octet_Put.calls _ _ t231 1 a1_2 t234 _ ?side1 ?side2 A5.out).mono ?_
  (case side1 => repeat (first | exact (Kd.R_reads' HO233.out).2.2 | (with_reducible refine Kd.C_alloc ?_ _) | (with_reducible refine Kd.C_drewN ?_ _) | (with_reducible refine Kd.C_drew ?_)))
  (case side2 => exact (Kd.R_reads' HO233.out).2.1)
  rintro e w15 ⟨v235, rfl, ho0, hb⟩
  refine ⟨_, rfl, ?_⟩
  have n0_ := Aside0.mk (Kd.R_elder' (by (with_reducible repeat (first | apply Kd.R_alloc | apply Kd.R_drewN | apply Kd.R_drew)); exact HO230.out) (Kd.R_base ho0) hb)
  have n1_ := Aside0.mk (Kd.R_elder' (by (with_reducible repeat (first | apply Kd.R_alloc | apply Kd.R_drewN | apply Kd.R_drew)); exact HO233.out) (Kd.R_base ho0) hb)
  have n2_ := Aside0.mk (Kd.R_lower (Kd.R_new' (Kd.R_new' ho0 (Kd.R_lt (by (with_reducible repeat (first | apply Kd.R_alloc | apply Kd.R_drewN | apply Kd.R_drew)); exact HO230.out))) (Kd.R_lt (by (with_reducible repeat (first | apply Kd.R_alloc | apply Kd.R_drewN | apply Kd.R_drew)); exact HO233.out))) (below_size (by repeat (first | (with_reducible first | exact HB.out | apply below_alloc | apply pw_below_drewN | apply below_drew1 | refine below_set ?_ GE227.out) | exact HB.out))))
  have n3_ := Aside0.mk (blk_below (g := gb227) (o := .cells #[.string a1_0, .int .i64 a1_1, .int .i64 a1_2, .int .i64 a1_3, .int .i64 a1_4] 42 (0, 0)) (by (with_reducible repeat (first | refine blk_drewN ?_ _ | refine blk_drew ?_ | refine blk_alloc ?_ _)); exact BK227.out) hb)
  have n4_ := Aside0.mk (below_step (by repeat (first | (with_reducible first | exact HB.out | apply below_alloc | apply pw_below_drewN | apply below_drew1 | refine below_set ?_ GE227.out) | exact HB.out)) hb)
  clear HO230
  clear HO233
  clear BK227
  clear HB
  have HO230 := n0_
  have HO233 := n1_
  have HO236 := n2_
  have BK227 := n3_
  have HB := n4_
  clear n0_ n1_ n2_ n3_ n4_
  (try clear hb)
  (try clear hb2)
  (try clear hk)
  (try clear hi)
  (try clear ho0)
  obtain ⟨Ao16, co16, eo16⟩ := Kd.R_slice HO236.out
  (first | subst eo16 | (injection eo16 with f1_ f2_ f3_; have f4_ := f1_.symm; have f5_ := f3_.symm; clear f1_ f2_ f3_; subst f4_; subst f5_))
  refine hK.out _ _ ⟨(blk_cell BK227.out 0).trans rfl, (blk_cell BK227.out 1).trans rfl, (blk_cell BK227.out 2).trans rfl, (blk_cell BK227.out 3).trans rfl, (blk_cell BK227.out 4).trans rfl⟩ (fun hHeld => ?_)
  clear hK K
  refine norm_ (a' := ?_) ?_ ?_
  rotate_left
  · show Act.put _ (some 15) _ = _
    simp only [Act.put, List.setIfInBounds_toArray, List.set_cons_zero, List.set_cons_succ, i64_w, i32_w]
    rfl
  refine one_ (i := 9) (N := some 18) #[true, true, true, true, true, true, true, true, true, true, false] rfl rfl (one_of HT_.out (by kernel_rfl)) (by decide) (fun K hK => ?_)
  refine goes_ Try.func26 (by kernel_rfl) rfl #[.slice Ao16 t234.length co16, .int .i64 1, .int .i64 a1_3] (by rfl) rfl rfl (by (try simp only [List.map_toArray, List.map_cons, List.map_nil]); first | done | rfl | (simp only [List.length_drop, List.length_take]; rfl)) ?_
  with_reducible refine (octet_Put.calls _ _ t234 1 a1_3 t237 _ ?side1 ?side2 A6.out).mono ?_
  (case side1 => repeat (first | exact (Kd.R_reads' HO236.out).2.2 | (with_reducible refine Kd.C_alloc ?_ _) | (with_reducible refine Kd.C_drewN ?_ _) | (with_reducible refine Kd.C_drew ?_)))
  (case side2 => exact (Kd.R_reads' HO236.out).2.1)
  rintro e w17 ⟨v238, rfl, ho0, hb⟩
  refine ⟨_, rfl, ?_⟩
  have n0_ := Aside0.mk (Kd.R_elder' (by (with_reducible repeat (first | apply Kd.R_alloc | apply Kd.R_drewN | apply Kd.R_drew)); exact HO230.out) (Kd.R_base ho0) hb)
  have n1_ := Aside0.mk (Kd.R_elder' (by (with_reducible repeat (first | apply Kd.R_alloc | apply Kd.R_drewN | apply Kd.R_drew)); exact HO233.out) (Kd.R_base ho0) hb)
  have n2_ := Aside0.mk (Kd.R_elder' (by (with_reducible repeat (first | apply Kd.R_alloc | apply Kd.R_drewN | apply Kd.R_drew)); exact HO236.out) (Kd.R_base ho0) hb)
  have n3_ := Aside0.mk (Kd.R_lower (Kd.R_new' (Kd.R_new' (Kd.R_new' ho0 (Kd.R_lt (by (with_reducible repeat (first | apply Kd.R_alloc | apply Kd.R_drewN | apply Kd.R_drew)); exact HO230.out))) (Kd.R_lt (by (with_reducible repeat (first | apply Kd.R_alloc | apply Kd.R_drewN | apply Kd.R_drew)); exact HO233.out))) (Kd.R_lt (by (with_reducible repeat (first | apply Kd.R_alloc | apply Kd.R_drewN | apply Kd.R_drew)); exact HO236.out))) (below_size (by repeat (first | (with_reducible first | exact HB.out | apply below_alloc | apply pw_below_drewN | apply below_drew1 | refine below_set ?_ GE227.out) | exact HB.out))))
  have n4_ := Aside0.mk (blk_below (g := gb227) (o := .cells #[.string a1_0, .int .i64 a1_1, .int .i64 a1_2, .int .i64 a1_3, .int .i64 a1_4] 42 (0, 0)) (by (with_reducible repeat (first | refine blk_drewN ?_ _ | refine blk_drew ?_ | refine blk_alloc ?_ _)); exact BK227.out) hb)
  have n5_ := Aside0.mk (below_step (by repeat (first | (with_reducible first | exact HB.out | apply below_alloc | apply pw_below_drewN | apply below_drew1 | refine below_set ?_ GE227.out) | exact HB.out)) hb)
  clear HO230
  clear HO233
  clear HO236
  clear BK227
  clear HB
  have HO230 := n0_
  have HO233 := n1_
  have HO236 := n2_
  have HO239 := n3_
  have BK227 := n4_
  have HB := n5_
  clear n0_ n1_ n2_ n3_ n4_ n5_
  (try clear hb)
  (try clear hb2)
  (try clear hk)
  (try clear hi)
  (try clear ho0)
  refine hK.out _ _ ⟨(blk_cell BK227.out 0).trans rfl, (blk_cell BK227.out 1).trans rfl, (blk_cell BK227.out 2).trans rfl, (blk_cell BK227.out 3).trans rfl, (blk_cell BK227.out 4).trans rfl⟩ (fun hHeld => ?_)
  clear hK K
  refine norm_ (a' := ?_) ?_ ?_
  rotate_left
  · show Act.put _ (some 18) _ = _
    simp only [Act.put, List.setIfInBounds_toArray, List.set_cons_zero, List.set_cons_succ, i64_w, i32_w]
    rfl
  refine pure_ (i := 10) (N := some 0) (v := ?_) (a' := ?_) #[true, true, true, true, true, true, true, true, true, true, true] rfl rfl (any_of HT_.out (by kernel_rfl)) (fun _ _ _ h => h) (Or.inl ⟨by rfl, ?_⟩) ?_ ?_
  rotate_left
  · intro w'
    go_simp
    with_reducible rfl
  rotate_left
  · simp only [Act.put, List.setIfInBounds_toArray, List.set_cons_zero, List.set_cons_succ, i64_w, i32_w]
    rfl
  refine done_ (done_of HT_.out (by kernel_rfl)) ?_
  have hcz18_0 : w17.cell? ⟨gb227, 0, none⟩ = some (.string a1_0) := (blk_cell BK227.out 0).trans rfl
  have hcz18_1 : w17.cell? ⟨gb227, 1, none⟩ = some (.int .i64 a1_1) := (blk_cell BK227.out 1).trans rfl
  have hcz18_2 : w17.cell? ⟨gb227, 2, none⟩ = some (.int .i64 a1_2) := (blk_cell BK227.out 2).trans rfl
  have hcz18_3 : w17.cell? ⟨gb227, 3, none⟩ = some (.int .i64 a1_3) := (blk_cell BK227.out 3).trans rfl
  have hcz18_4 : w17.cell? ⟨gb227, 4, none⟩ = some (.int .i64 a1_4) := (blk_cell BK227.out 4).trans rfl
  have hfz18_0 := blk_frozen BK227.out 0
  have hfz18_1 := blk_frozen BK227.out 1
  have hfz18_2 := blk_frozen BK227.out 2
  have hfz18_3 := blk_frozen BK227.out 3
  have hfz18_4 := blk_frozen BK227.out 4
  obtain ⟨Ao19, co19, eo19⟩ := Kd.R_slice HO239.out
  subst eo19
  try go_wp2_with (first | ((with_reducible refine gate_callee (f := 26) rfl ?_); refine goesL_ (some 22) rfl rfl Try.func26 (by kernel_rfl) rfl #[.slice Ao19 t237.length co19, .int .i64 8, .int .i64 a1_4] rfl (by (try simp only [List.map_toArray, List.map_cons, List.map_nil]); first | done | rfl | (simp only [List.length_drop, List.length_take]; rfl)) ?_; (with_reducible refine (octet_Put.calls _ _ t237 8 a1_4 t240 _ ?side1 ?side2 A7.out).mono ?_); (case side1 => repeat (first | exact (Kd.R_reads' HO239.out).2.2 | (with_reducible refine Kd.C_alloc ?_ _) | (with_reducible refine Kd.C_drewN ?_ _) | (with_reducible refine Kd.C_drew ?_))); (case side2 => exact (Kd.R_reads' HO239.out).2.1); rintro e w20 ⟨v241, rfl, ho0, hb⟩; refine ⟨_, rfl, ?_⟩; have n0_ := Aside0.mk (Kd.R_elder' (by (with_reducible repeat (first | apply Kd.R_alloc | apply Kd.R_drewN | apply Kd.R_drew)); exact HO230.out) (Kd.R_base ho0) hb); have n1_ := Aside0.mk (Kd.R_elder' (by (with_reducible repeat (first | apply Kd.R_alloc | apply Kd.R_drewN | apply Kd.R_drew)); exact HO233.out) (Kd.R_base ho0) hb); have n2_ := Aside0.mk (Kd.R_elder' (by (with_reducible repeat (first | apply Kd.R_alloc | apply Kd.R_drewN | apply Kd.R_drew)); exact HO236.out) (Kd.R_base ho0) hb); have n3_ := Aside0.mk (Kd.R_elder' (by (with_reducible repeat (first | apply Kd.R_alloc | apply Kd.R_drewN | apply Kd.R_drew)); exact HO239.out) (Kd.R_base ho0) hb); have n4_ := Aside0.mk (Kd.R_lower (Kd.R_new' (Kd.R_new' (Kd.R_new' (Kd.R_new' ho0 (Kd.R_lt (by (with_reducible repeat (first | apply Kd.R_alloc | apply Kd.R_drewN | apply Kd.R_drew)); exact HO230.out))) (Kd.R_lt (by (with_reducible repeat (first | apply Kd.R_alloc | apply Kd.R_drewN | apply Kd.R_drew)); exact HO233.out))) (Kd.R_lt (by (with_reducible repeat (first | apply Kd.R_alloc | apply Kd.R_drewN | apply Kd.R_drew)); exact HO236.out))) (Kd.R_lt (by (with_reducible repeat (first | apply Kd.R_alloc | apply Kd.R_drewN | apply Kd.R_drew)); exact HO239.out))) (below_size (by repeat (first | (with_reducible first | exact HB.out | apply below_alloc | apply pw_below_drewN | apply below_drew1 | refine below_set ?_ GE227.out) | exact HB.out)))); have n5_ := Aside0.mk (blk_below (g := gb227) (o := .cells #[.string a1_0, .int .i64 a1_1, .int .i64 a1_2, .int .i64 a1_3, .int .i64 a1_4] 42 (0, 0)) (by (with_reducible repeat (first | refine blk_drewN ?_ _ | refine blk_drew ?_ | refine blk_alloc ?_ _)); exact BK227.out) hb); have n6_ := Aside0.mk (below_step (by repeat (first | (with_reducible first | exact HB.out | apply below_alloc | apply pw_below_drewN | apply below_drew1 | refine below_set ?_ GE227.out) | exact HB.out)) hb); clear HO230; clear HO233; clear HO236; clear HO239; clear BK227; clear HB; have HO230 := n0_; have HO233 := n1_; have HO236 := n2_; have HO239 := n3_; have HO242 := n4_; have BK227 := n5_; have HB := n6_; clear n0_ n1_ n2_ n3_ n4_ n5_ n6_; (try clear hb); (try clear hb2); (try clear hk); (try clear hi); (try clear ho0)))
  go_ret
  exact ⟨_, by first | rfl | (simp [errW_none, errW_some] <;> rfl) | (simp [*, errW_none, errW_some] <;> rfl), by (with_reducible repeat (first | apply Kd.R_alloc | apply Kd.R_drewN | apply Kd.R_drew)); exact Kd.R_mono HO242.out (fun _ hk => trivial), by repeat (first | (with_reducible first | exact HB.out | apply below_alloc | apply pw_below_drewN | apply below_drew1 | refine below_set ?_ GE227.out) | exact HB.out)⟩

/-! ### api_Var_45: function 45 -/
def api_Var_45.l0 : Nat → List Int → List (S42) → Int → Int → Option (List Int × Bool)
  | 0, _, _, _, _ => none
  | k + 1, x10, x20, x21, x22 => if x22 < x21 then (if 0 ≤ x22 then (if x22 < (x20.length : Int) then ((tab_PutVars_1.f k ((rd_T42 x20 x22).f0) ((rd_T42 x20 x22).f1) ((rd_T42 x20 x22).f2) ((rd_T42 x20 x22).f3) ((rd_T42 x20 x22).f4)).bind fun t248 => (if t248 = true then ((tab_PutVars_2.f x10 ((rd_T42 x20 x22).f0) ((rd_T42 x20 x22).f1) ((rd_T42 x20 x22).f2) ((rd_T42 x20 x22).f3) ((rd_T42 x20 x22).f4)).bind fun t249 => (api_Var_45.l0 k t249 x20 x21 (wrap64 (x22 + 1)))) else (some (([] : List Int), false)))) else (none)) else (none)) else (some (x10, true))
def api_Var_45.f (k : Nat) (l0 : List (S42)) (a1 : Int) (a2 : Int) (a3 : Int) : Option (List Int × Bool) := if (l0.length : Int) > a1 then (some (([] : List Int), false)) else ((octet_Put.f ([] : List Int) 2 (l0.length : Int)).bind fun t243 => (api_Var_45.l0 k t243 l0 (l0.length : Int) 0))
set_option maxHeartbeats 8000000 in
set_option maxRecDepth 100000 in
theorem api_Var_45.calls (k : Nat) (A0 : Option Addr) (c0 : Nat) (l0 : List (S42)) (a1 : Int) (a2 : Int) (a3 : Int) (r1 : List Int) (r2 : Bool) (w : World) (hr0 : Kd.C k42 w A0 l0.length l0) (hc0 : l0.length ≤ c0) (h : api_Var_45.f k l0 a1 a2 a3 = some (r1, r2)) :
    Calls Try.prog 45 #[.slice A0 l0.length c0, .int .i64 a1, .func (.func 46) #[] #[], .func (.func 47) #[] #[]] w fun e w' => ∃ v0_ : Value, e = .returned (.tuple #[v0_, .bool r2]) ∧ Kd.R (Kd.int .u8) 5 w' w.heap.size (fun _ => True) v0_ r1 ∧ Below w.heap.size w w' := by
  have hu42 := Try.underlying42
  have HR0 := Aside0.mk hr0
  have HC0 := Aside0.mk hc0
  clear hr0 hc0
  have HB := Aside0.mk (Below.refl w.heap.size w)
  have H : (if (l0.length : Int) > a1 then (some (([] : List Int), false)) else ((octet_Put.f ([] : List Int) 2 (l0.length : Int)).bind fun t243 => (api_Var_45.l0 k t243 l0 (l0.length : Int) 0))) = some (r1, r2) := h
  clear h
  by_cases c5 : (l0.length : Int) > a1
  · rw [if_pos c5] at H
    have c5b0 : decide (a1 < (l0.length : Int)) = true := decide_eq_true c5
    clear c5
    simp only [Option.some.injEq, Prod.mk.injEq] at H
    obtain ⟨rfl, rfl⟩ := H
    go_enter Try.func45, Try.ntmps45
    go_wp2
    go_ret2
    exact ⟨_, by first | rfl | (simp [errW_none, errW_some] <;> rfl) | (simp [*, errW_none, errW_some] <;> rfl), by first | exact Kd.R_nil _ _ _ _ _ | exact Kd.N_nil _ _ _ _ _ | exact Kd.V_nil _ _ _ _ _ | exact Kd.Q_nil _ _ _ _ _ | exact Kd.S_nil _ _ _ _ _, by repeat (first | (with_reducible first | exact HB.out | apply below_alloc | apply pw_below_drewN | apply below_drew1) | exact HB.out)⟩
  · rw [if_neg c5] at H
    have c5b0 : decide (a1 < (l0.length : Int)) = false := decide_eq_false c5
    clear c5
    replace H := Option.bind_eq_some_iff.mp H
    obtain ⟨t243, A60, H⟩ := H
    replace H : (api_Var_45.l0 k t243 l0 (l0.length : Int) 0) = some (r1, r2) := H
    have A6 := Aside0.mk A60
    clear A60
    have H' := Aside0.mk H
    clear H
    go_enter Try.func45, Try.ntmps45
    go_wp2_with (first | ((with_reducible refine gate_callee (f := 26) rfl ?_); refine goesL_ (some 19) rfl rfl Try.func26 (by kernel_rfl) rfl #[.slice none 0 0, .int .i64 2, .int .i64 (l0.length : Int)] rfl (by (try simp only [List.map_toArray, List.map_cons, List.map_nil]); first | done | rfl | (simp only [List.length_drop, List.length_take]; rfl)) ?_; (refine (octet_Put.calls _ _ ([] : List Int) 2 (l0.length : Int) t243 _ ?side1 ?side2 A6.out).mono ?_); (case side1 => exact Kd.C_nil _ _); (case side2 => exact Nat.le_refl _); rintro e w7 ⟨v244, rfl, ho0, hb⟩; refine ⟨_, rfl, ?_⟩; have n0_ := Aside0.mk (Kd.R_lower ho0 (below_size (by repeat (first | (with_reducible first | exact HB.out | apply below_alloc | apply pw_below_drewN | apply below_drew1) | exact HB.out)))); have n1_ := Aside0.mk (below_step (by repeat (first | (with_reducible first | exact HB.out | apply below_alloc | apply pw_below_drewN | apply below_drew1) | exact HB.out)) hb); clear HB; have HO245 := n0_; have HB := n1_; clear n0_ n1_; (try clear hb); (try clear hb2); (try clear hk); (try clear hi); (try clear ho0)))
    go_loopg [10, 22] k (fun kq v10 v22 w' => ∃ (x10_1 : List Int) (x22_1 : Int), v22 = .int .i64 x22_1 ∧ Aside0 (api_Var_45.l0 kq x10_1 l0 (l0.length : Int) x22_1 = some (r1, r2)) ∧ Aside0 (kq ≤ k) ∧ Aside0 (Kd.R (Kd.int .u8) 5 w' w.heap.size (fun _ => True) v10 x10_1) ∧ Aside0 (Below w.heap.size w w'))
    case atStart => exact ⟨(t243), (0), (by first | rfl | (simp; done) | (simp [*]; done)), H', ⟨Nat.le_refl _⟩, ⟨by (with_reducible repeat (first | apply Kd.R_alloc | apply Kd.R_drewN | apply Kd.R_drew)); exact HO245.out⟩, ⟨by repeat (first | (with_reducible first | exact HB.out | apply below_alloc | apply pw_below_drewN | apply below_drew1) | exact HB.out)⟩⟩
    case round =>
      clear H'
      try clear c2
      try clear p2
      try clear c4
      try clear c5
      try clear c5b0
      obtain ⟨x10_1, x22_1, rfl, HA, HK1, HO_10, HB⟩ := hrel
      cases gk with
      | zero => exact absurd HA.out (by simp [api_Var_45.l0])
      | succ k1 =>
        have H := HA.out
        clear HA
        simp only [api_Var_45.l0] at H
        by_cases c8 : x22_1 < (l0.length : Int)
        · rw [if_pos c8] at H
          have c8b0 : decide (x22_1 < (l0.length : Int)) = true := decide_eq_true c8
          clear c8
          by_cases c9 : 0 ≤ x22_1
          · rw [if_pos c9] at H
            have c9b0 : decide (0 ≤ x22_1) = true := decide_eq_true c9
            clear c9
            by_cases c10 : x22_1 < (l0.length : Int)
            · rw [if_pos c10] at H
              have c10b0 : decide (x22_1 < (l0.length : Int)) = true := decide_eq_true c10
              clear c10
              replace H := Option.bind_eq_some_iff.mp H
              obtain ⟨t248, A110, H⟩ := H
              replace H : (if t248 = true then ((tab_PutVars_2.f x10_1 ((rd_T42 l0 x22_1).f0) ((rd_T42 l0 x22_1).f1) ((rd_T42 l0 x22_1).f2) ((rd_T42 l0 x22_1).f3) ((rd_T42 l0 x22_1).f4)).bind fun t249 => (api_Var_45.l0 k1 t249 l0 (l0.length : Int) (wrap64 (x22_1 + 1)))) else (some (([] : List Int), false))) = some (r1, r2) := H
              have A11 := Aside0.mk A110
              clear A110
              by_cases c12 : t248 = true
              · subst c12
                have H1 : ((tab_PutVars_2.f x10_1 ((rd_T42 l0 x22_1).f0) ((rd_T42 l0 x22_1).f1) ((rd_T42 l0 x22_1).f2) ((rd_T42 l0 x22_1).f3) ((rd_T42 l0 x22_1).f4)).bind fun t249 => (api_Var_45.l0 k1 t249 l0 (l0.length : Int) (wrap64 (x22_1 + 1)))) = some (r1, r2) := by rw [if_pos rfl] at H; exact H
                clear H
                have H := H1
                clear H1
                replace H := Option.bind_eq_some_iff.mp H
                obtain ⟨t249, A130, H⟩ := H
                replace H : (api_Var_45.l0 k1 t249 l0 (l0.length : Int) (wrap64 (x22_1 + 1))) = some (r1, r2) := H
                have A13 := Aside0.mk A130
                clear A130
                have H' := Aside0.mk H
                clear H
                have p246 : 0 ≤ (x22_1 : Int) := of_decide_eq_true (by first | (with_reducible assumption) | assumption)
                have q246 : x22_1 < (l0.length : Int) := of_decide_eq_true (by first | (with_reducible assumption) | assumption)
                obtain ⟨ad246, e246, hx246_0, hx246_1, hx246_2, hx246_3, hx246_4⟩ := at_T42 HR0.out x22_1 p246 q246
                cases e246
                replace hx246_0 := (HB.out.cell (World.block_lt_of_cell? w _ hx246_0)).trans hx246_0
                replace hx246_1 := (HB.out.cell (World.block_lt_of_cell? w _ hx246_1)).trans hx246_1
                replace hx246_2 := (HB.out.cell (World.block_lt_of_cell? w _ hx246_2)).trans hx246_2
                replace hx246_3 := (HB.out.cell (World.block_lt_of_cell? w _ hx246_3)).trans hx246_3
                replace hx246_4 := (HB.out.cell (World.block_lt_of_cell? w _ hx246_4)).trans hx246_4
                replace p246 := eq_true p246
                replace q246 := eq_true q246
                go_wp2_with (first | ((with_reducible refine gate_dst (N := 12) rfl ?_); refine box_event ?hg (N := 12) ?hd (cs := #[.string (⟨#[]⟩ : ByteArray), .int .i64 0, .int .i64 0, .int .i64 0, .int .i64 0]) (t := 42) ?hr ?_; (case hd => rfl); (case hg => rfl); (case hr => first | (go_simp; done) | (go_simp; rfl)); intro gb247 hg w14 hbox hb; have n0_ := Aside0.mk (Kd.R_below (by (with_reducible repeat (first | apply Kd.R_alloc | apply Kd.R_drewN | apply Kd.R_drew)); exact HO_10.out) hb); have n1_ := Aside0.mk (below_step (by repeat (first | (with_reducible first | exact HB.out | apply below_alloc | apply pw_below_drewN | apply below_drew1) | exact HB.out)) hb); have n2_ := Aside0.mk (hbox); have n3_ := Aside0.mk ((by rw [hg]; exact (below_size (by repeat (first | (with_reducible first | exact HB.out | apply below_alloc | apply pw_below_drewN | apply below_drew1) | exact HB.out))) : w.heap.size ≤ gb247)); have n4_ := Aside0.mk ((by rw [hg]; exact (below_size (by repeat (first | (with_reducible first | exact HB.out | apply below_alloc | apply pw_below_drewN | apply below_drew1) | exact HB.out))) : w.heap.size ≤ gb247)); clear HO_10; clear HB; have HO_10 := n0_; have HB := n1_; have BK247 := n2_; have GW247 := n3_; have GE247 := n4_; clear n0_ n1_ n2_ n3_ n4_; clear hb hbox hg; have hcz15_0 : w14.cell? ⟨gb247, 0, none⟩ = some (.string (⟨#[]⟩ : ByteArray)) := (blk_cell BK247.out 0).trans rfl; have hcz15_1 : w14.cell? ⟨gb247, 1, none⟩ = some (.int .i64 0) := (blk_cell BK247.out 1).trans rfl; have hcz15_2 : w14.cell? ⟨gb247, 2, none⟩ = some (.int .i64 0) := (blk_cell BK247.out 2).trans rfl; have hcz15_3 : w14.cell? ⟨gb247, 3, none⟩ = some (.int .i64 0) := (blk_cell BK247.out 3).trans rfl; have hcz15_4 : w14.cell? ⟨gb247, 4, none⟩ = some (.int .i64 0) := (blk_cell BK247.out 4).trans rfl; have hfz15_0 := blk_frozen BK247.out 0; have hfz15_1 := blk_frozen BK247.out 1; have hfz15_2 := blk_frozen BK247.out 2; have hfz15_3 := blk_frozen BK247.out 3; have hfz15_4 := blk_frozen BK247.out 4) | (go_at_call 46; (with_reducible refine (tab_PutVars_1.calls k1 ((rd_T42 l0 x22_1).f0) ((rd_T42 l0 x22_1).f1) ((rd_T42 l0 x22_1).f2) ((rd_T42 l0 x22_1).f3) ((rd_T42 l0 x22_1).f4) true _ A11.out).mono ?_); rintro e w16 ⟨rfl, hb⟩; have n0_ := Aside0.mk (Kd.R_below (by (with_reducible repeat (first | apply Kd.R_alloc | apply Kd.R_drewN | apply Kd.R_drew)); exact (Kd.R_mono (Kd.R_far (p := ⟨gb247, 4, none⟩) (Kd.R_far (p := ⟨gb247, 3, none⟩) (Kd.R_far (p := ⟨gb247, 2, none⟩) (Kd.R_far (p := ⟨gb247, 1, none⟩) (Kd.R_far (p := ⟨gb247, 0, none⟩) (Kd.R_types HO_10.out BK247.out (by decide)) (fun _ hk => hk.2) (.string ((rd_T42 l0 x22_1).f0))) (fun _ hk => hk.2) (.int .i64 ((rd_T42 l0 x22_1).f1))) (fun _ hk => hk.2) (.int .i64 ((rd_T42 l0 x22_1).f2))) (fun _ hk => hk.2) (.int .i64 ((rd_T42 l0 x22_1).f3))) (fun _ hk => hk.2) (.int .i64 ((rd_T42 l0 x22_1).f4))) (fun _ h_ => h_.1))) hb); have n1_ := Aside0.mk (blk_below (g := gb247) (o := .cells #[.string ((rd_T42 l0 x22_1).f0), .int .i64 ((rd_T42 l0 x22_1).f1), .int .i64 ((rd_T42 l0 x22_1).f2), .int .i64 ((rd_T42 l0 x22_1).f3), .int .i64 ((rd_T42 l0 x22_1).f4)] 42 (0, 0)) (by (with_reducible repeat (first | refine blk_drewN ?_ _ | refine blk_drew ?_ | refine blk_alloc ?_ _)); refine blk_put (cs := #[.string ((rd_T42 l0 x22_1).f0), .int .i64 ((rd_T42 l0 x22_1).f1), .int .i64 ((rd_T42 l0 x22_1).f2), .int .i64 ((rd_T42 l0 x22_1).f3), .int .i64 0]) ?_ 4 _ rfl; (with_reducible repeat (first | refine blk_drewN ?_ _ | refine blk_drew ?_ | refine blk_alloc ?_ _)); refine blk_put (cs := #[.string ((rd_T42 l0 x22_1).f0), .int .i64 ((rd_T42 l0 x22_1).f1), .int .i64 ((rd_T42 l0 x22_1).f2), .int .i64 0, .int .i64 0]) ?_ 3 _ rfl; (with_reducible repeat (first | refine blk_drewN ?_ _ | refine blk_drew ?_ | refine blk_alloc ?_ _)); refine blk_put (cs := #[.string ((rd_T42 l0 x22_1).f0), .int .i64 ((rd_T42 l0 x22_1).f1), .int .i64 0, .int .i64 0, .int .i64 0]) ?_ 2 _ rfl; (with_reducible repeat (first | refine blk_drewN ?_ _ | refine blk_drew ?_ | refine blk_alloc ?_ _)); refine blk_put (cs := #[.string ((rd_T42 l0 x22_1).f0), .int .i64 0, .int .i64 0, .int .i64 0, .int .i64 0]) ?_ 1 _ rfl; (with_reducible repeat (first | refine blk_drewN ?_ _ | refine blk_drew ?_ | refine blk_alloc ?_ _)); refine blk_put (cs := #[.string (⟨#[]⟩ : ByteArray), .int .i64 0, .int .i64 0, .int .i64 0, .int .i64 0]) ?_ 0 _ rfl; (with_reducible repeat (first | refine blk_drewN ?_ _ | refine blk_drew ?_ | refine blk_alloc ?_ _)); exact BK247.out) hb); have n2_ := Aside0.mk (below_step (by repeat (first | (with_reducible first | exact HB.out | apply below_alloc | apply pw_below_drewN | apply below_drew1 | refine below_set ?_ GE247.out) | exact HB.out)) hb); clear HO_10; clear BK247; clear HB; have HO_10 := n0_; have BK247 := n1_; have HB := n2_; clear n0_ n1_ n2_; (try clear hb); (try clear hb2); (try clear hk); (try clear hi); have hcz17_0 : w16.cell? ⟨gb247, 0, none⟩ = some (.string ((rd_T42 l0 x22_1).f0)) := (blk_cell BK247.out 0).trans rfl; have hcz17_1 : w16.cell? ⟨gb247, 1, none⟩ = some (.int .i64 ((rd_T42 l0 x22_1).f1)) := (blk_cell BK247.out 1).trans rfl; have hcz17_2 : w16.cell? ⟨gb247, 2, none⟩ = some (.int .i64 ((rd_T42 l0 x22_1).f2)) := (blk_cell BK247.out 2).trans rfl; have hcz17_3 : w16.cell? ⟨gb247, 3, none⟩ = some (.int .i64 ((rd_T42 l0 x22_1).f3)) := (blk_cell BK247.out 3).trans rfl; have hcz17_4 : w16.cell? ⟨gb247, 4, none⟩ = some (.int .i64 ((rd_T42 l0 x22_1).f4)) := (blk_cell BK247.out 4).trans rfl; have hfz17_0 := blk_frozen BK247.out 0; have hfz17_1 := blk_frozen BK247.out 1; have hfz17_2 := blk_frozen BK247.out 2; have hfz17_3 := blk_frozen BK247.out 3; have hfz17_4 := blk_frozen BK247.out 4; obtain ⟨Ao18, co18, eo18⟩ := Kd.R_slice HO_10.out; subst eo18) | (go_at_call 47; (with_reducible refine (tab_PutVars_2.calls _ _ x10_1 ((rd_T42 l0 x22_1).f0) ((rd_T42 l0 x22_1).f1) ((rd_T42 l0 x22_1).f2) ((rd_T42 l0 x22_1).f3) ((rd_T42 l0 x22_1).f4) t249 _ ?side1 ?side2 A13.out).mono ?_); (case side1 => repeat (first | exact (Kd.R_reads' HO_10.out).2.2 | (with_reducible refine Kd.C_alloc ?_ _) | (with_reducible refine Kd.C_drewN ?_ _) | (with_reducible refine Kd.C_drew ?_))); (case side2 => exact (Kd.R_reads' HO_10.out).2.1); rintro e w19 ⟨v250, rfl, ho0, hb⟩; have n0_ := Aside0.mk (Kd.R_elder' (by (with_reducible repeat (first | apply Kd.R_alloc | apply Kd.R_drewN | apply Kd.R_drew)); exact HO_10.out) (Kd.R_base ho0) hb); have n1_ := Aside0.mk (Kd.R_lower (Kd.R_new' ho0 (Kd.R_lt (by (with_reducible repeat (first | apply Kd.R_alloc | apply Kd.R_drewN | apply Kd.R_drew)); exact HO_10.out))) (below_size (by repeat (first | (with_reducible first | exact HB.out | apply below_alloc | apply pw_below_drewN | apply below_drew1 | refine below_set ?_ GE247.out) | exact HB.out)))); have n2_ := Aside0.mk (blk_below (g := gb247) (o := .cells #[.string ((rd_T42 l0 x22_1).f0), .int .i64 ((rd_T42 l0 x22_1).f1), .int .i64 ((rd_T42 l0 x22_1).f2), .int .i64 ((rd_T42 l0 x22_1).f3), .int .i64 ((rd_T42 l0 x22_1).f4)] 42 (0, 0)) (by (with_reducible repeat (first | refine blk_drewN ?_ _ | refine blk_drew ?_ | refine blk_alloc ?_ _)); exact BK247.out) hb); have n3_ := Aside0.mk (below_step (by repeat (first | (with_reducible first | exact HB.out | apply below_alloc | apply pw_below_drewN | apply below_drew1 | refine below_set ?_ GE247.out) | exact HB.out)) hb); clear HO_10; clear BK247; clear HB; have HO_10 := n0_; have HO251 := n1_; have BK247 := n2_; have HB := n3_; clear n0_ n1_ n2_ n3_; (try clear hb); (try clear hb2); (try clear hk); (try clear hi); (try clear ho0)))
                go_roundg k1
                case measure => have := HK1.out; omega
                case rel => exact ⟨(t249), (wrap64 (x22_1 + 1)), (by first | rfl | (simp; done) | (simp [*]; done)), H', ⟨by have := HK1.out; omega⟩, ⟨by (with_reducible repeat (first | apply Kd.R_alloc | apply Kd.R_drewN | apply Kd.R_drew)); exact Kd.R_mono HO251.out (fun _ hk => trivial)⟩, ⟨by repeat (first | (with_reducible first | exact HB.out | apply below_alloc | apply pw_below_drewN | apply below_drew1 | refine below_set ?_ GE247.out) | exact HB.out)⟩⟩
              · replace c12 := Bool.eq_false_iff.mpr c12
                subst c12
                have H1 : (some (([] : List Int), false)) = some (r1, r2) := by rw [if_neg (show ¬ (false = true) by decide)] at H; exact H
                clear H
                have H := H1
                clear H1
                simp only [Option.some.injEq, Prod.mk.injEq] at H
                obtain ⟨rfl, rfl⟩ := H
                have p246 : 0 ≤ (x22_1 : Int) := of_decide_eq_true (by first | (with_reducible assumption) | assumption)
                have q246 : x22_1 < (l0.length : Int) := of_decide_eq_true (by first | (with_reducible assumption) | assumption)
                obtain ⟨ad246, e246, hx246_0, hx246_1, hx246_2, hx246_3, hx246_4⟩ := at_T42 HR0.out x22_1 p246 q246
                cases e246
                replace hx246_0 := (HB.out.cell (World.block_lt_of_cell? w _ hx246_0)).trans hx246_0
                replace hx246_1 := (HB.out.cell (World.block_lt_of_cell? w _ hx246_1)).trans hx246_1
                replace hx246_2 := (HB.out.cell (World.block_lt_of_cell? w _ hx246_2)).trans hx246_2
                replace hx246_3 := (HB.out.cell (World.block_lt_of_cell? w _ hx246_3)).trans hx246_3
                replace hx246_4 := (HB.out.cell (World.block_lt_of_cell? w _ hx246_4)).trans hx246_4
                replace p246 := eq_true p246
                replace q246 := eq_true q246
                go_wp2_with (first | ((with_reducible refine gate_dst (N := 12) rfl ?_); refine box_event ?hg (N := 12) ?hd (cs := #[.string (⟨#[]⟩ : ByteArray), .int .i64 0, .int .i64 0, .int .i64 0, .int .i64 0]) (t := 42) ?hr ?_; (case hd => rfl); (case hg => rfl); (case hr => first | (go_simp; done) | (go_simp; rfl)); intro gb247 hg w20 hbox hb; have n0_ := Aside0.mk (Kd.R_below (by (with_reducible repeat (first | apply Kd.R_alloc | apply Kd.R_drewN | apply Kd.R_drew)); exact HO_10.out) hb); have n1_ := Aside0.mk (below_step (by repeat (first | (with_reducible first | exact HB.out | apply below_alloc | apply pw_below_drewN | apply below_drew1) | exact HB.out)) hb); have n2_ := Aside0.mk (hbox); have n3_ := Aside0.mk ((by rw [hg]; exact (below_size (by repeat (first | (with_reducible first | exact HB.out | apply below_alloc | apply pw_below_drewN | apply below_drew1) | exact HB.out))) : w.heap.size ≤ gb247)); have n4_ := Aside0.mk ((by rw [hg]; exact (below_size (by repeat (first | (with_reducible first | exact HB.out | apply below_alloc | apply pw_below_drewN | apply below_drew1) | exact HB.out))) : w.heap.size ≤ gb247)); clear HO_10; clear HB; have HO_10 := n0_; have HB := n1_; have BK247 := n2_; have GW247 := n3_; have GE247 := n4_; clear n0_ n1_ n2_ n3_ n4_; clear hb hbox hg; have hcz21_0 : w20.cell? ⟨gb247, 0, none⟩ = some (.string (⟨#[]⟩ : ByteArray)) := (blk_cell BK247.out 0).trans rfl; have hcz21_1 : w20.cell? ⟨gb247, 1, none⟩ = some (.int .i64 0) := (blk_cell BK247.out 1).trans rfl; have hcz21_2 : w20.cell? ⟨gb247, 2, none⟩ = some (.int .i64 0) := (blk_cell BK247.out 2).trans rfl; have hcz21_3 : w20.cell? ⟨gb247, 3, none⟩ = some (.int .i64 0) := (blk_cell BK247.out 3).trans rfl; have hcz21_4 : w20.cell? ⟨gb247, 4, none⟩ = some (.int .i64 0) := (blk_cell BK247.out 4).trans rfl; have hfz21_0 := blk_frozen BK247.out 0; have hfz21_1 := blk_frozen BK247.out 1; have hfz21_2 := blk_frozen BK247.out 2; have hfz21_3 := blk_frozen BK247.out 3; have hfz21_4 := blk_frozen BK247.out 4) | (go_at_call 46; (with_reducible refine (tab_PutVars_1.calls k1 ((rd_T42 l0 x22_1).f0) ((rd_T42 l0 x22_1).f1) ((rd_T42 l0 x22_1).f2) ((rd_T42 l0 x22_1).f3) ((rd_T42 l0 x22_1).f4) false _ A11.out).mono ?_); rintro e w22 ⟨rfl, hb⟩; have n0_ := Aside0.mk (Kd.R_below (by (with_reducible repeat (first | apply Kd.R_alloc | apply Kd.R_drewN | apply Kd.R_drew)); exact (Kd.R_mono (Kd.R_far (p := ⟨gb247, 4, none⟩) (Kd.R_far (p := ⟨gb247, 3, none⟩) (Kd.R_far (p := ⟨gb247, 2, none⟩) (Kd.R_far (p := ⟨gb247, 1, none⟩) (Kd.R_far (p := ⟨gb247, 0, none⟩) (Kd.R_types HO_10.out BK247.out (by decide)) (fun _ hk => hk.2) (.string ((rd_T42 l0 x22_1).f0))) (fun _ hk => hk.2) (.int .i64 ((rd_T42 l0 x22_1).f1))) (fun _ hk => hk.2) (.int .i64 ((rd_T42 l0 x22_1).f2))) (fun _ hk => hk.2) (.int .i64 ((rd_T42 l0 x22_1).f3))) (fun _ hk => hk.2) (.int .i64 ((rd_T42 l0 x22_1).f4))) (fun _ h_ => h_.1))) hb); have n1_ := Aside0.mk (blk_below (g := gb247) (o := .cells #[.string ((rd_T42 l0 x22_1).f0), .int .i64 ((rd_T42 l0 x22_1).f1), .int .i64 ((rd_T42 l0 x22_1).f2), .int .i64 ((rd_T42 l0 x22_1).f3), .int .i64 ((rd_T42 l0 x22_1).f4)] 42 (0, 0)) (by (with_reducible repeat (first | refine blk_drewN ?_ _ | refine blk_drew ?_ | refine blk_alloc ?_ _)); refine blk_put (cs := #[.string ((rd_T42 l0 x22_1).f0), .int .i64 ((rd_T42 l0 x22_1).f1), .int .i64 ((rd_T42 l0 x22_1).f2), .int .i64 ((rd_T42 l0 x22_1).f3), .int .i64 0]) ?_ 4 _ rfl; (with_reducible repeat (first | refine blk_drewN ?_ _ | refine blk_drew ?_ | refine blk_alloc ?_ _)); refine blk_put (cs := #[.string ((rd_T42 l0 x22_1).f0), .int .i64 ((rd_T42 l0 x22_1).f1), .int .i64 ((rd_T42 l0 x22_1).f2), .int .i64 0, .int .i64 0]) ?_ 3 _ rfl; (with_reducible repeat (first | refine blk_drewN ?_ _ | refine blk_drew ?_ | refine blk_alloc ?_ _)); refine blk_put (cs := #[.string ((rd_T42 l0 x22_1).f0), .int .i64 ((rd_T42 l0 x22_1).f1), .int .i64 0, .int .i64 0, .int .i64 0]) ?_ 2 _ rfl; (with_reducible repeat (first | refine blk_drewN ?_ _ | refine blk_drew ?_ | refine blk_alloc ?_ _)); refine blk_put (cs := #[.string ((rd_T42 l0 x22_1).f0), .int .i64 0, .int .i64 0, .int .i64 0, .int .i64 0]) ?_ 1 _ rfl; (with_reducible repeat (first | refine blk_drewN ?_ _ | refine blk_drew ?_ | refine blk_alloc ?_ _)); refine blk_put (cs := #[.string (⟨#[]⟩ : ByteArray), .int .i64 0, .int .i64 0, .int .i64 0, .int .i64 0]) ?_ 0 _ rfl; (with_reducible repeat (first | refine blk_drewN ?_ _ | refine blk_drew ?_ | refine blk_alloc ?_ _)); exact BK247.out) hb); have n2_ := Aside0.mk (below_step (by repeat (first | (with_reducible first | exact HB.out | apply below_alloc | apply pw_below_drewN | apply below_drew1 | refine below_set ?_ GE247.out) | exact HB.out)) hb); clear HO_10; clear BK247; clear HB; have HO_10 := n0_; have BK247 := n1_; have HB := n2_; clear n0_ n1_ n2_; (try clear hb); (try clear hb2); (try clear hk); (try clear hi)))
                go_ret2
                exact ⟨_, by first | rfl | (simp [errW_none, errW_some] <;> rfl) | (simp [*, errW_none, errW_some] <;> rfl), by first | exact Kd.R_nil _ _ _ _ _ | exact Kd.N_nil _ _ _ _ _ | exact Kd.V_nil _ _ _ _ _ | exact Kd.Q_nil _ _ _ _ _ | exact Kd.S_nil _ _ _ _ _, by repeat (first | (with_reducible first | exact HB.out | apply below_alloc | apply pw_below_drewN | apply below_drew1 | refine below_set ?_ GE247.out) | exact HB.out)⟩
            · rw [if_neg c10] at H
              exact absurd H (by simp)
          · rw [if_neg c9] at H
            exact absurd H (by simp)
        · rw [if_neg c8] at H
          have c8b0 : decide (x22_1 < (l0.length : Int)) = false := decide_eq_false c8
          clear c8
          simp only [Option.some.injEq, Prod.mk.injEq] at H
          obtain ⟨rfl, rfl⟩ := H
          go_wp2
          go_ret2
          exact ⟨_, by first | rfl | (simp [errW_none, errW_some] <;> rfl) | (simp [*, errW_none, errW_some] <;> rfl), by (with_reducible repeat (first | apply Kd.R_alloc | apply Kd.R_drewN | apply Kd.R_drew)); exact HO_10.out, by repeat (first | (with_reducible first | exact HB.out | apply below_alloc | apply pw_below_drewN | apply below_drew1) | exact HB.out)⟩

/-! ### tab_PutVars: function 17 -/
def tab_PutVars.f (k : Nat) (l0 : List (S42)) : Option (List Int × Bool) := (api_Var_45.f k l0 64 46 47).bind fun bt252 => (some (bt252.1, bt252.2))
set_option maxHeartbeats 8000000 in
set_option maxRecDepth 100000 in
theorem tab_PutVars.calls (k : Nat) (A0 : Option Addr) (c0 : Nat) (l0 : List (S42)) (r1 : List Int) (r2 : Bool) (w : World) (hr0 : Kd.C k42 w A0 l0.length l0) (hc0 : l0.length ≤ c0) (h : tab_PutVars.f k l0 = some (r1, r2)) :
    Calls Try.prog 17 #[.slice A0 l0.length c0] w fun e w' => ∃ v0_ : Value, e = .returned (.tuple #[v0_, .bool r2]) ∧ Kd.R (Kd.int .u8) 5 w' w.heap.size (fun _ => True) v0_ r1 ∧ Below w.heap.size w w' := by
  have HR0 := Aside0.mk hr0
  have HC0 := Aside0.mk hc0
  clear hr0 hc0
  have HB := Aside0.mk (Below.refl w.heap.size w)
  have H : ((api_Var_45.f k l0 64 46 47).bind fun bt252 => (some (bt252.1, bt252.2))) = some (r1, r2) := h
  clear h
  replace H := Option.bind_eq_some_iff.mp H
  obtain ⟨⟨t252, t253⟩, A20, H⟩ := H
  replace H : (some (t252, t253)) = some (r1, r2) := H
  have A2 := Aside0.mk A20
  clear A20
  simp only [Option.some.injEq, Prod.mk.injEq] at H
  obtain ⟨rfl, rfl⟩ := H
  go_enter Try.func17, Try.ntmps17
  go_wp2_with (first | ((with_reducible refine gate_callee (f := 45) rfl ?_); refine goesL_ (some 5) rfl rfl Try.func45 (by kernel_rfl) rfl #[.slice A0 l0.length c0, .int .i64 64, .func (.func 46) #[] #[], .func (.func 47) #[] #[]] rfl (by (try simp only [List.map_toArray, List.map_cons, List.map_nil]); first | done | rfl | (simp only [List.length_drop, List.length_take]; rfl)) ?_; (with_reducible refine (api_Var_45.calls k _ _ l0 64 46 47 t252 t253 _ ?side1 ?side2 A2.out).mono ?_); (case side1 => repeat (first | exact HR0.out | (with_reducible refine Kd.C_alloc ?_ _) | (with_reducible refine Kd.C_drewN ?_ _) | (with_reducible refine Kd.C_drew ?_))); (case side2 => exact HC0.out); rintro e w3 ⟨v254, rfl, ho0, hb⟩; refine ⟨_, rfl, ?_⟩; have n0_ := Aside0.mk (Kd.R_lower ho0 (below_size (by repeat (first | (with_reducible first | exact HB.out | apply below_alloc | apply pw_below_drewN | apply below_drew1) | exact HB.out)))); have n1_ := Aside0.mk (below_step (by repeat (first | (with_reducible first | exact HB.out | apply below_alloc | apply pw_below_drewN | apply below_drew1) | exact HB.out)) hb); clear HB; have HO255 := n0_; have HB := n1_; clear n0_ n1_; (try clear hb); (try clear hb2); (try clear hk); (try clear hi); (try clear ho0)))
  go_ret2
  exact ⟨_, by first | rfl | (simp [errW_none, errW_some] <;> rfl) | (simp [*, errW_none, errW_some] <;> rfl), by (with_reducible repeat (first | apply Kd.R_alloc | apply Kd.R_drewN | apply Kd.R_drew)); exact HO255.out, by repeat (first | (with_reducible first | exact HB.out | apply below_alloc | apply pw_below_drewN | apply below_drew1) | exact HB.out)⟩

/-! ### ladderbackref03_Text: function 40 -/
mutual
def ladderbackref03_Text.j0 : Nat → List Int → ByteArray → Option (List Int)
  | 0, _, _ => none
  | k + 1, x0, x1 => (some (([] : List Int) : List Int)).bind fun y256 => (if y256.length + x0.length < 140737488355328 then ((some (y256 ++ x0 : List Int)).bind fun y259 => (if y259.length < 140737488355328 then (ladderbackref03_Text.l0 k x1 (y259 ++ [((x1.size : Int)) % 256]) 0) else (none))) else (none))
def ladderbackref03_Text.l0 : Nat → ByteArray → List Int → Int → Option (List Int)
  | 0, _, _, _ => none
  | k + 1, x1, x5, x6 => if x6 < (x1.size : Int) then (if 0 ≤ x6 then (if x5.length < 140737488355328 then (ladderbackref03_Text.l0 k x1 (x5 ++ [bt x1 x6]) (wrap64 (x6 + 1))) else (none)) else (none)) else (some x5)
end
def ladderbackref03_Text.f (k : Nat) (l0 : List Int) (a1 : ByteArray) : Option (List Int) := if (a1.size : Int) > 255 then (if 0 ≤ 255 then (if 255 ≤ (a1.size : Int) then (ladderbackref03_Text.j0 k l0 (a1.extract 0 255)) else (none)) else (none)) else (ladderbackref03_Text.j0 k l0 a1)
set_option maxHeartbeats 8000000 in
set_option maxRecDepth 100000 in
theorem ladderbackref03_Text.calls (k : Nat) (A0 : Option Addr) (c0 : Nat) (l0 : List Int) (a1 : ByteArray) (r : List Int) (w : World) (hr0 : Kd.C (Kd.int .u8) w A0 l0.length l0) (hc0 : l0.length ≤ c0) (h : ladderbackref03_Text.f k l0 a1 = some r) :
    Calls Try.prog 40 #[.slice A0 l0.length c0, .string a1] w fun e w' => ∃ v0_ : Value, e = .returned (v0_) ∧ Kd.R (Kd.int .u8) 5 w' w.heap.size (fun _ => True) v0_ r ∧ Below w.heap.size w w' := by
  have HR0 := Aside0.mk hr0
  have HC0 := Aside0.mk hc0
  clear hr0 hc0
  have HB := Aside0.mk (Below.refl w.heap.size w)
  have H : (if (a1.size : Int) > 255 then (if 0 ≤ 255 then (if 255 ≤ (a1.size : Int) then (ladderbackref03_Text.j0 k l0 (a1.extract 0 255)) else (none)) else (none)) else (ladderbackref03_Text.j0 k l0 a1)) = some r := h
  clear h
  have HC3 := Aside0.mk H
  clear H
  go_enter Try.func40, Try.ntmps40
  go_upto_if 9 with (fail)
  go_cut [1] (fun v1 wc => ∃ (kq : Nat) (x1_2 : ByteArray), v1 = .string x1_2 ∧ Aside0 (ladderbackref03_Text.j0 kq l0 x1_2 = some r) ∧ Aside0 (kq ≤ k) ∧ Aside0 (Below w.heap.size w wc))
  case first =>
    have H := HC3.out
    clear HC3
    by_cases c4 : (a1.size : Int) > 255
    · rw [if_pos c4] at H
      have c4b0 : decide (255 < (a1.size : Int)) = true := decide_eq_true c4
      have c4b1 : decide (255 < a1.size) = true := decide_eq_true (by omega)
      clear c4
      (first | rw [c4b0] | (simp only [i64_w, i32_w]; rw [c4b0]) | skip)
      by_cases c5 : 0 ≤ 255
      · rw [if_pos c5] at H
        have c5b0 := eq_true c5
        have c5b1 : decide (0 ≤ 255) = true := decide_eq_true c5
        clear c5
        by_cases c6 : 255 ≤ (a1.size : Int)
        · rw [if_pos c6] at H
          have c6b0 := eq_true c6
          have c6b1 : decide (255 ≤ (a1.size : Int)) = true := decide_eq_true c6
          clear c6
          have H' := Aside0.mk H
          clear H
          go_wp2
          go_meet
          case rel => exact ⟨_, (a1.extract 0 255), (by first | rfl | (simp; done) | (simp [*]; done)), H', ⟨by first | omega | exact Nat.le_refl _⟩, ⟨by repeat (first | (with_reducible first | exact HB.out | apply below_alloc | apply pw_below_drewN | apply below_drew1) | exact HB.out)⟩⟩
        · rw [if_neg c6] at H
          exact absurd H (by simp)
      · rw [if_neg c5] at H
        exact absurd H (by simp)
    · rw [if_neg c4] at H
      have c4b0 : decide (255 < (a1.size : Int)) = false := decide_eq_false c4
      have c4b1 : decide (255 < a1.size) = false := decide_eq_false (by omega)
      clear c4
      (first | rw [c4b0] | (simp only [i64_w, i32_w]; rw [c4b0]) | skip)
      have H' := Aside0.mk H
      clear H
      go_wp2
      go_meet
      case rel => exact ⟨_, (a1), (by first | rfl | (simp; done) | (simp [*]; done)), H', ⟨by first | omega | exact Nat.le_refl _⟩, ⟨by repeat (first | (with_reducible first | exact HB.out | apply below_alloc | apply pw_below_drewN | apply below_drew1) | exact HB.out)⟩⟩
  case rest =>
    clear HC3
    try clear p2
    try clear c4
    try clear c4b0
    try clear c4b1
    try clear c5
    try clear c5b0
    try clear c5b1
    try clear c6
    try clear c6b0
    try clear c6b1
    obtain ⟨kq, x1_2, rfl, HA, HJ2, HB⟩ := hcut
    cases kq with
    | zero => exact absurd HA.out (by simp [ladderbackref03_Text.j0])
    | succ kj2 =>
      have H := HA.out
      clear HA
      simp only [ladderbackref03_Text.j0] at H
      obtain ⟨y256, hy256⟩ : ∃ y_ : List Int, y_ = (([] : List Int)) := ⟨_, rfl⟩
      replace H : (if y256.length + l0.length < 140737488355328 then ((some (y256 ++ l0 : List Int)).bind fun y259 => (if y259.length < 140737488355328 then (ladderbackref03_Text.l0 kj2 x1_2 (y259 ++ [((x1_2.size : Int)) % 256]) 0) else (none))) else (none)) = some r := by first | (rw [hy256]; with_reducible exact H) | (have H2_ := (Option.bind_some _ _).symm.trans H; rw [hy256]; with_reducible exact H2_) | (have H2_ := (Option.bind_some _ _).symm.trans H; with_reducible exact H2_) | with_reducible exact H | (rw [hy256]; exact H) | exact H
      have Ny256 := Aside0.mk hy256
      clear hy256
      by_cases c7 : y256.length + l0.length < 140737488355328
      · rw [if_pos c7] at H
        have LMc7 := Aside0.mk c7
        clear c7
        obtain ⟨y259, hy259⟩ : ∃ y_ : List Int, y_ = (y256 ++ l0) := ⟨_, rfl⟩
        replace H : (if y259.length < 140737488355328 then (ladderbackref03_Text.l0 kj2 x1_2 (y259 ++ [((x1_2.size : Int)) % 256]) 0) else (none)) = some r := by first | (rw [hy259]; with_reducible exact H) | (have H2_ := (Option.bind_some _ _).symm.trans H; rw [hy259]; with_reducible exact H2_) | (have H2_ := (Option.bind_some _ _).symm.trans H; with_reducible exact H2_) | with_reducible exact H | (rw [hy259]; exact H) | exact H
        have Ny259 := Aside0.mk hy259
        clear hy259
        by_cases c8 : y259.length < 140737488355328
        · rw [if_pos c8] at H
          have LMc8 := Aside0.mk c8
          clear c8
          obtain ⟨y262, hy262⟩ : ∃ y_ : List Int, y_ = (y259 ++ [((x1_2.size : Int)) % 256]) := ⟨_, rfl⟩
          replace H : (ladderbackref03_Text.l0 kj2 x1_2 y262 0) = some r := by first | (rw [hy262]; with_reducible exact H) | (have H2_ := (Option.bind_some _ _).symm.trans H; rw [hy262]; with_reducible exact H2_) | (have H2_ := (Option.bind_some _ _).symm.trans H; with_reducible exact H2_) | with_reducible exact H | (rw [hy262]; exact H) | exact H
          have Ny262 := Aside0.mk hy262
          clear hy262
          have H' := Aside0.mk H
          clear H
          go_wp2_with (first | ((with_reducible refine gate_dst (N := 12) rfl ?_); refine Kd.R_lit (Kd.int .u8) _ 5 ?hg (N := 12) ?hd (xs := ([] : List Int)) (inner := []) (ok := fun _ => True) (okp := fun _ => True) ?hr ?hp (fun _ hk => hk) trivial (Below.refl _ _) (Nat.le_refl _) (by simp) ?_; (case hd => rfl); (case hg => rfl); (case hr => first | (go_simp; done) | (go_simp; rfl)); (case hp => exact (Reps.none _ _)); intro v257 w9 ho10 hb hg_ hnew_; clear hg_ hnew_; (first | rw [← Ny256.out] at ho10 | (simp only [Int.reduceToNat] at ho10; rw [← Ny256.out] at ho10)); have n0_ := Aside0.mk (Kd.R_lower ho10 (below_size (by repeat (first | (with_reducible first | exact HB.out | apply below_alloc | apply pw_below_drewN | apply below_drew1) | exact HB.out)))); have n1_ := Aside0.mk (below_step (by repeat (first | (with_reducible first | exact HB.out | apply below_alloc | apply pw_below_drewN | apply below_drew1) | exact HB.out)) hb); clear HB; have HO258 := n0_; have HB := n1_; clear n0_ n1_; clear hb ho10) | ((with_reducible refine gate_builtin (b := .append) (xs := #[.tmp 12, .tmp 13]) rfl ?_); at_builtin; refine Kd.R_append_rows (Kd.int .u8) (w0 := w) w.heap.size rfl (.tmp 12) (.tmp 13) 23 5 (.int .u8 0) 1 rfl Try.underlying23 info5 rfl (by decide) (by omega) v257 y256 l0 _ _ _ (fun _ => True) (fun _ => False) rfl rfl ?aO ?aR (fun _ _ h => h) (fun _ h => h.elim) ?aF ?aB ?aS ?aL ?_; (case aR => repeat (first | exact (Kd.C_below HR0.out HB.out) | (with_reducible refine Kd.C_alloc ?_ _) | (with_reducible refine Kd.C_drewN ?_ _) | (with_reducible refine Kd.C_drew ?_))); (case aB => exact (by repeat (first | (with_reducible first | exact HB.out | apply below_alloc | apply pw_below_drewN | apply below_drew1) | exact HB.out))); (case aF => exact (fun _ _ => trivial)); (case aO => exact (by (with_reducible repeat (first | apply Kd.R_alloc | apply Kd.R_drewN | apply Kd.R_drew)); exact HO258.out)); (case aS => exact (below_size (by repeat (first | (with_reducible first | exact HB.out | apply below_alloc | apply pw_below_drewN | apply below_drew1) | exact HB.out)))); (case aL => have := LMc7.out; omega); intro v260 w11 ho hb hg hat; rw [← Ny259.out] at ho; have n0_ := Aside0.mk (hb); have n1_ := Aside0.mk (ho); clear HB; clear HO258; have HB := n0_; have HO261 := n1_; clear n0_ n1_; clear ho hb hg hat) | ((with_reducible refine gate_builtin (b := .append) (xs := #[.tmp 15, .tmp 19]) rfl ?_); at_builtin; refine Kd.R_append (Kd.int .u8) (w0 := w) w.heap.size rfl (.tmp 15) (.tmp 19) 23 5 (.int .u8 0) 1 rfl Try.underlying23 info5 rfl (by decide) (by omega) v260 y259 (((x1_2.size : Int)) % 256) [.int .u8 (((x1_2.size : Int)) % 256)] (fun _ => True) (fun _ => False) rfl rfl ?aP (fun _ hk => hk.elim) ?aF ?aO ?aB ?aS ?aL ?_; (case aP => exact rfl); (case aB => exact (by repeat (first | (with_reducible first | exact HB.out | apply below_alloc | apply pw_below_drewN | apply below_drew1) | exact HB.out))); (case aF => exact (fun _ _ => trivial)); (case aO => exact (by (with_reducible repeat (first | apply Kd.R_alloc | apply Kd.R_drewN | apply Kd.R_drew)); exact HO261.out)); (case aS => exact (below_size (by repeat (first | (with_reducible first | exact HB.out | apply below_alloc | apply pw_below_drewN | apply below_drew1) | exact HB.out)))); (case aL => have := LMc8.out; omega); intro v263 w12 ho hb hg hat; rw [← Ny262.out] at ho; have n0_ := Aside0.mk (hb); have n1_ := Aside0.mk (ho); clear HB; clear HO261; have HB := n0_; have HO264 := n1_; clear n0_ n1_; clear ho hb hg hat))
          go_loopg [5, 6] kj2 (fun kq v5 v6 w' => ∃ (x5_2 : List Int) (x6_2 : Int), v6 = .int .i64 x6_2 ∧ Aside0 (ladderbackref03_Text.l0 kq x1_2 x5_2 x6_2 = some r) ∧ Aside0 (kq ≤ kj2) ∧ Aside0 (Kd.R (Kd.int .u8) 5 w' w.heap.size (fun _ => True) v5 x5_2) ∧ Aside0 (Below w.heap.size w w'))
          case atStart => exact ⟨(y262), (0), (by first | rfl | (simp; done) | (simp [*]; done)), H', ⟨Nat.le_refl _⟩, ⟨by (with_reducible repeat (first | apply Kd.R_alloc | apply Kd.R_drewN | apply Kd.R_drew)); exact HO264.out⟩, ⟨by repeat (first | (with_reducible first | exact HB.out | apply below_alloc | apply pw_below_drewN | apply below_drew1) | exact HB.out)⟩⟩
          case round =>
            clear H'
            try clear p2
            try clear c4
            try clear c4b0
            try clear c4b1
            try clear c5
            try clear c5b0
            try clear c5b1
            try clear c6
            try clear c6b0
            try clear c6b1
            try clear c7
            try clear c8
            try clear p2
            obtain ⟨x5_2, x6_2, rfl, HA, HK2, HO_5, HB⟩ := hrel
            cases gk with
            | zero => exact absurd HA.out (by simp [ladderbackref03_Text.l0])
            | succ k2 =>
              have H := HA.out
              clear HA
              simp only [ladderbackref03_Text.l0] at H
              by_cases c13 : x6_2 < (x1_2.size : Int)
              · rw [if_pos c13] at H
                have c13b0 : decide (x6_2 < (x1_2.size : Int)) = true := decide_eq_true c13
                clear c13
                by_cases c14 : 0 ≤ x6_2
                · rw [if_pos c14] at H
                  have c14b0 : decide (0 ≤ x6_2) = true := decide_eq_true c14
                  clear c14
                  by_cases c16 : x5_2.length < 140737488355328
                  · rw [if_pos c16] at H
                    have LMc16 := Aside0.mk c16
                    clear c16
                    obtain ⟨y265, hy265⟩ : ∃ y_ : List Int, y_ = (x5_2 ++ [bt x1_2 x6_2]) := ⟨_, rfl⟩
                    replace H : (ladderbackref03_Text.l0 k2 x1_2 y265 (wrap64 (x6_2 + 1))) = some r := by first | (rw [hy265]; with_reducible exact H) | (have H2_ := (Option.bind_some _ _).symm.trans H; rw [hy265]; with_reducible exact H2_) | (have H2_ := (Option.bind_some _ _).symm.trans H; with_reducible exact H2_) | with_reducible exact H | (rw [hy265]; exact H) | exact H
                    have Ny265 := Aside0.mk hy265
                    clear hy265
                    have H' := Aside0.mk H
                    clear H
                    have p15 : 0 ≤ (x6_2 : Int) := of_decide_eq_true (by first | (with_reducible assumption) | assumption)
                    have q15 : x6_2 < (x1_2.size : Int) := of_decide_eq_true (by first | (with_reducible assumption) | assumption)
                    have hx15 := bt_at x1_2 x6_2
                    replace p15 := eq_true p15
                    replace q15 := eq_true q15
                    go_wp2_with (first | ((with_reducible refine gate_builtin (b := .append) (xs := #[.tmp 27, .tmp 31]) rfl ?_); at_builtin; refine Kd.R_append (Kd.int .u8) (w0 := w) w.heap.size rfl (.tmp 27) (.tmp 31) 23 5 (.int .u8 0) 1 rfl Try.underlying23 info5 rfl (by decide) (by omega) u5 x5_2 (bt x1_2 x6_2) [.int .u8 (bt x1_2 x6_2)] (fun _ => True) (fun _ => False) rfl rfl ?aP (fun _ hk => hk.elim) ?aF ?aO ?aB ?aS ?aL ?_; (case aP => exact rfl); (case aB => exact (by repeat (first | (with_reducible first | exact HB.out | apply below_alloc | apply pw_below_drewN | apply below_drew1) | exact HB.out))); (case aF => exact (fun _ _ => trivial)); (case aO => exact (by (with_reducible repeat (first | apply Kd.R_alloc | apply Kd.R_drewN | apply Kd.R_drew)); exact HO_5.out)); (case aS => exact (below_size (by repeat (first | (with_reducible first | exact HB.out | apply below_alloc | apply pw_below_drewN | apply below_drew1) | exact HB.out)))); (case aL => have := LMc16.out; omega); intro v266 w17 ho hb hg hat; rw [← Ny265.out] at ho; have n0_ := Aside0.mk (hb); have n1_ := Aside0.mk (ho); clear HB; clear HO_5; have HB := n0_; have HO267 := n1_; clear n0_ n1_; clear ho hb hg hat))
                    go_roundg k2
                    case measure => have := HJ2.out; have := HK2.out; omega
                    case rel => exact ⟨(y265), (wrap64 (x6_2 + 1)), (by first | rfl | (simp; done) | (simp [*]; done)), H', ⟨by have := HJ2.out; have := HK2.out; omega⟩, ⟨by (with_reducible repeat (first | apply Kd.R_alloc | apply Kd.R_drewN | apply Kd.R_drew)); exact HO267.out⟩, ⟨by repeat (first | (with_reducible first | exact HB.out | apply below_alloc | apply pw_below_drewN | apply below_drew1) | exact HB.out)⟩⟩
                  · rw [if_neg c16] at H
                    exact absurd H (by simp)
                · rw [if_neg c14] at H
                  exact absurd H (by simp)
              · rw [if_neg c13] at H
                have c13b0 : decide (x6_2 < (x1_2.size : Int)) = false := decide_eq_false c13
                clear c13
                obtain rfl := Option.some.inj H
                go_wp2
                go_ret
                exact ⟨_, by first | rfl | (simp [errW_none, errW_some] <;> rfl) | (simp [*, errW_none, errW_some] <;> rfl), by (with_reducible repeat (first | apply Kd.R_alloc | apply Kd.R_drewN | apply Kd.R_drew)); exact HO_5.out, by repeat (first | (with_reducible first | exact HB.out | apply below_alloc | apply pw_below_drewN | apply below_drew1) | exact HB.out)⟩
        · rw [if_neg c8] at H
          exact absurd H (by simp)
      · rw [if_neg c7] at H
        exact absurd H (by simp)

end Go.Proofs.Ytaefdfnhibmgdaa.PTab
end

section
/- What the reference of octet puts: the same as the program, for bytes of at most 1000000 in length. -/
namespace Go.Proofs.Ytaefdfnhibmgdaa
open Go.RowKit Go.Proofs.YtaefdfnhibmgdaaW.PrintWords Go.Proofs.YtaefdfnhibmgdaaW.PrintLast Go.Proofs.YtaefdfnhibmgdaaW.PrintMore Go.Proofs.Ytaefdfnhibmgdaa.Given Go.Proofs.Ytaefdfnhibmgdaa.PTab
theorem held_is (a : Int) : ladderbackref03_held.f a = some (mx 0 (mn a 8)) := by
  have e : mx 0 (mn a 8) = if a < 0 then 0 else if a > 8 then 8 else a := by
    unfold mx mn
    split <;> split <;> (try split) <;> (try split) <;> omega
  rw [e]
  unfold ladderbackref03_held.f
  split
  · rfl
  · split <;> rfl
theorem byte_step (v Q : Int) (hQ : 0 < Q) : (v % (256 * Q)) / 256 = (v / 256) % Q ∧ (v % (256 * Q)) % 256 = v % 256 := by
  have h0 : v = 256 * (Q * (v / (256 * Q))) + v % (256 * Q) := by
    have := Int.mul_ediv_add_emod v (256 * Q)
    rw [Int.mul_assoc] at this
    exact this.symm
  have h1 := Int.emod_nonneg v (show 256 * Q ≠ 0 by omega)
  have h2 := Int.emod_lt_of_pos v (show 0 < 256 * Q by omega)
  generalize hq : v / (256 * Q) = q at h0
  generalize hr : v % (256 * Q) = r at h0 h1 h2 ⊢
  have h3 : v / 256 = Q * q + r / 256 := by
    generalize Q * q = z at h0 ⊢
    omega
  refine ⟨?_, ?_⟩
  · rw [h3, Int.add_comm, Int.add_mul_emod_self_left]
    exact (Int.emod_eq_of_lt (by omega) (by omega)).symm
  · generalize Q * q = z at h0
    omega
theorem pow256 (m : Nat) (hm : m ≤ 8) : (256 ^ m : Int) ≤ 18446744073709551616 := by
  rcases (by omega : m = 0 ∨ m = 1 ∨ m = 2 ∨ m = 3 ∨ m = 4 ∨ m = 5 ∨ m = 6 ∨ m = 7 ∨ m = 8) with rfl | rfl | rfl | rfl | rfl | rfl | rfl | rfl | rfl <;> decide
theorem ref_put_loop (l0 : List Int) (a1 a2 : Int) (n : Nat) (hn : mx 0 (mn a1 8) = n) (hn8 : n ≤ 8) (hl : l0.length ≤ 1000000000) : ∀ (d j k : Nat), j + d = n → d < k →
    ladderbackref03_Put.l0 k a1 (l0 ++ le j a2) (sh j a2 % (256 ^ (8 - j) : Int)) j = some (l0 ++ le n a2) := by
  intro d
  induction d with
  | zero =>
    intro j k hj hk
    obtain ⟨k, rfl⟩ : ∃ m, k = m + 1 := ⟨k - 1, by omega⟩
    obtain rfl : j = n := by omega
    simp only [ladderbackref03_Put.l0]
    rw [held_is, hn]
    simp only [Option.bind_some]
    rw [if_neg (by omega)]
  | succ d ih =>
    intro j k hj hk
    obtain ⟨k, rfl⟩ : ∃ m, k = m + 1 := ⟨k - 1, by omega⟩
    simp only [ladderbackref03_Put.l0]
    rw [held_is, hn]
    simp only [Option.bind_some]
    rw [if_pos (by omega), if_pos (by rw [List.length_append, le_length]; omega)]
    have hQ : (256 ^ (8 - j) : Int) = 256 * 256 ^ (8 - (j + 1)) := by
      rw [show 8 - j = (8 - (j + 1)) + 1 from by omega, Int.pow_succ, Int.mul_comm]
    have hp : (0 : Int) < 256 ^ (8 - (j + 1)) := Int.pow_pos (by decide)
    have hs := byte_step (sh j a2) _ hp
    rw [← hQ] at hs
    have h1 := Int.emod_nonneg (sh j a2) (show (256 ^ (8 - j) : Int) ≠ 0 by rw [hQ]; omega)
    have h2 : sh j a2 % (256 ^ (8 - j) : Int) < 18446744073709551616 := by
      refine Int.lt_of_lt_of_le (Int.emod_lt_of_pos _ (by rw [hQ]; omega)) ?_
      exact pow256 _ (by omega)
    have e1 : (sh j a2 % (256 ^ (8 - j) : Int)).tmod 256 % 256 = sh j a2 % 256 := by
      rw [Int.tmod_eq_emod_of_nonneg h1, Int.emod_emod_of_dvd _ (by decide), hs.2]
    have e2 : IntKind.u64.wrap ((sh j a2 % (256 ^ (8 - j) : Int)).tdiv 256) = sh (j + 1) a2 % (256 ^ (8 - (j + 1)) : Int) := by
      rw [Int.tdiv_eq_ediv_of_nonneg h1, IntKind.wrap_u64]
      refine Eq.trans (Int.emod_eq_of_lt (by omega) (by omega)) hs.1
    have e3 : wrap64 ((j : Int) + 1) = ((j + 1 : Nat) : Int) := by unfold wrap64; omega
    rw [e1, e2, e3]
    have := ih (j + 1) k (by omega) (by omega)
    rw [← this]
    simp [le, List.append_assoc]
theorem bytesOf_take (s : ByteArray) (j : Nat) : bytesOf (s.extract 0 j) = (bytesOf s).take j := by
  unfold bytesOf
  rw [ByteArray.data_extract, Array.toList_extract, List.map_take]
  simp
theorem bytesOf_length (s : ByteArray) : (bytesOf s).length = s.size := by simp [bytesOf]
theorem bytesOf_get (s : ByteArray) (j : Nat) (h : j < s.size) : (bytesOf s)[j]? = some (bt s j) := by
  unfold bytesOf bt
  rw [List.getElem?_map]
  simp [h, ByteArray.getElem_eq_getElem_data]
theorem bytesOf_step (s : ByteArray) (j : Nat) (h : j < s.size) : bytesOf (s.extract 0 (j + 1)) = bytesOf (s.extract 0 j) ++ [bt s j] := by
  rw [bytesOf_take, bytesOf_take, List.take_add_one, bytesOf_get s j h]
  rfl
theorem ref_text_loop (s : ByteArray) (l : List Int) (hl : l.length ≤ 1000000000) (hs : s.size ≤ 1000) : ∀ (d j k : Nat), j + d = s.size → d < k →
    ladderbackref03_Text.l0 k s (l ++ bytesOf (s.extract 0 j)) j = some (l ++ bytesOf s) := by
  intro d
  induction d with
  | zero =>
    intro j k hj hk
    obtain ⟨k, rfl⟩ : ∃ m, k = m + 1 := ⟨k - 1, by omega⟩
    obtain rfl : j = s.size := by omega
    simp only [ladderbackref03_Text.l0]
    rw [if_neg (by omega), ByteArray.extract_zero_size]
  | succ d ih =>
    intro j k hj hk
    obtain ⟨k, rfl⟩ : ∃ m, k = m + 1 := ⟨k - 1, by omega⟩
    simp only [ladderbackref03_Text.l0]
    rw [if_pos (by omega), if_pos (by omega), if_pos (by rw [List.length_append]; simp [bytesOf]; omega)]
    have e3 : wrap64 ((j : Int) + 1) = ((j + 1 : Nat) : Int) := by unfold wrap64; omega
    rw [e3, ← ih (j + 1) k (by omega) (by omega)]
    rw [bytesOf_step s j (by omega), List.append_assoc]
end Go.Proofs.Ytaefdfnhibmgdaa
end

section
/- What the laws of the tables need of the printed functions: numbers of a byte, names, the document's octets, the example. -/
namespace Go.Proofs.Ytaefdfnhibmgdaa.Given
open Go.RowKit Go.Proofs.Ytaefdfnhibmgdaa.PTab Go.Proofs.YtaefdfnhibmgdaaW.PrintWords Go.Proofs.YtaefdfnhibmgdaaW.PrintLast Go.Proofs.YtaefdfnhibmgdaaW.PrintMore
set_option linter.unusedVariables false
set_option linter.unusedSimpArgs false

theorem put1 (l : List Int) (v : Int) (hl : l.length ≤ 1000000000) : octet_Put.f l 1 v = some (l ++ le 1 v) := by
  unfold octet_Put.f
  rw [if_pos hl, show (mx 0 (mn 1 8)).toNat = 1 by decide]
theorem put8 (l : List Int) (v : Int) (hl : l.length ≤ 1000000000) : octet_Put.f l 8 v = some (l ++ le 8 v) := by
  unfold octet_Put.f
  rw [if_pos hl, show (mx 0 (mn 8 8)).toNat = 8 by decide]
theorem put2 (v : Int) : octet_Put.f [] 2 v = some (le 2 v) := by
  unfold octet_Put.f
  rw [if_pos (by simp), show (mx 0 (mn 2 8)).toNat = 2 by decide, List.nil_append]
theorem textT (l : List Int) (s : ByteArray) (hl : l.length ≤ 999999000) (hs : s.size ≤ 255) : octet_Text.f l s = some (l ++ encT s) := by
  unfold octet_Text.f encT
  rw [if_pos ⟨hl, by omega⟩, text_all s hs, Nat.min_eq_left hs, List.append_assoc]
theorem rputk (l0 : List Int) (a1 a2 : Int) (hl : l0.length ≤ 1000000000) (k : Nat) (hk : 9 ≤ k) : ladderbackref03_Put.f k l0 a1 a2 = some (l0 ++ le (mx 0 (mn a1 8)).toNat a2) := by
  have hn := mx_nat a1
  have hn8 : (mx 0 (mn a1 8)).toNat ≤ 8 := by unfold mx mn; split <;> split <;> omega
  have := ref_put_loop l0 a1 a2 _ hn hn8 hl (mx 0 (mn a1 8)).toNat 0 k (by omega) (by omega)
  unfold ladderbackref03_Put.f
  simp only [Option.bind_some, List.nil_append, List.length_nil]
  rw [if_pos (by omega)]
  have e : IntKind.u64.wrap a2 = sh 0 a2 % (256 ^ (8 - 0) : Int) := by rw [IntKind.wrap_u64]; rfl
  rw [e]
  simpa [le] using this
theorem rput8 (l : List Int) (v : Int) (hl : l.length ≤ 1000000000) (k : Nat) (hk : 9 ≤ k) : ladderbackref03_Put.f k l 8 v = some (l ++ le 8 v) := by
  rw [rputk l 8 v hl k hk, show (mx 0 (mn 8 8)).toNat = 8 by decide]
theorem rput2 (v : Int) (k : Nat) (hk : 9 ≤ k) : ladderbackref03_Put.f k [] 2 v = some (le 2 v) := by
  rw [rputk [] 2 v (by simp) k hk, show (mx 0 (mn 2 8)).toNat = 2 by decide, List.nil_append]
theorem rtextT (l : List Int) (s : ByteArray) (hl : l.length ≤ 1000000) (hs : s.size ≤ 255) (k : Nat) (hk : 300 ≤ k) : ladderbackref03_Text.f k l s = some (l ++ encT s) := by
  obtain ⟨k, rfl⟩ : ∃ m, k = m + 1 := ⟨k - 1, by omega⟩
  unfold ladderbackref03_Text.f
  rw [if_neg (by omega)]
  simp only [ladderbackref03_Text.j0, Option.bind_some, List.nil_append, List.length_nil]
  rw [if_pos (by omega), if_pos (by omega)]
  have := ref_text_loop s (l ++ le 1 (s.size : Int)) (by rw [List.length_append, le_length]; omega) (by omega) s.size 0 k (by omega) (by omega)
  have e0 : bytesOf (s.extract 0 0) = [] := by rw [bytesOf_take]; rfl
  rw [e0, List.append_nil] at this
  unfold encT
  simpa [le, sh, List.append_assoc] using this
theorem small_l (L : List Int) (hl : L.length ≤ 10) : ∀ (d i k : Nat), i + d = L.length → d < k → tab_small.l0 k L (L.length : Int) (i : Int) = some ((L.drop i).all small) := by
  intro d
  induction d with
  | zero =>
    intro i k h1 h2
    obtain ⟨k, rfl⟩ : ∃ m, k = m + 1 := ⟨k - 1, by omega⟩
    rw [tab_small.l0, if_neg (by omega), List.drop_eq_nil_of_le (by omega)]
    rfl
  | succ d ih =>
    intro i k h1 h2
    obtain ⟨k, rfl⟩ : ∃ m, k = m + 1 := ⟨k - 1, by omega⟩
    have hil : i < L.length := by omega
    have e : rd L (i : Int) = L[i] := by unfold rd; rw [Int.toNat_natCast, List.getD_eq_getElem?_getD, List.getElem?_eq_getElem hil]; rfl
    have ew : wrap64 ((i : Int) + 1) = ((i + 1 : Nat) : Int) := by unfold wrap64; omega
    rw [tab_small.l0, if_pos (by omega), if_pos (by omega), if_pos (by omega), e, List.drop_eq_getElem_cons hil, List.all_cons, ew]
    by_cases c1 : L[i] < 0
    · rw [if_pos c1, show small L[i] = false by unfold small; simp; omega]; rfl
    · rw [if_neg c1]
      by_cases c2 : L[i] > 255
      · rw [if_pos c2, show small L[i] = false by unfold small; simp; omega]; rfl
      · rw [if_neg c2, ih (i + 1) k (by omega) (by omega), small_iff.2 ⟨by omega, by omega⟩]
        rfl
theorem small_f (L : List Int) (hl : L.length ≤ 10) (k : Nat) (hk : 20 ≤ k) : tab_small.f k L = some (L.all small) := by
  unfold tab_small.f
  have := small_l L hl L.length 0 k (by omega) (by omega)
  simpa using this
theorem rsmall (a : Int) : ladderbackref14_small.f a = some (small a) := by
  unfold ladderbackref14_small.f small
  by_cases h : a ≥ 0
  · rw [if_pos h, show decide (0 ≤ a) = true from decide_eq_true h, Bool.true_and]
    congr 1
    exact decide_eq_decide.2 (by omega)
  · rw [if_neg h, show decide (0 ≤ a) = false from decide_eq_false h]; rfl
theorem wl (i : Nat) (h : i < 100000) : wrap64 ((i : Int) + 1) = ((i + 1 : Nat) : Int) := by unfold wrap64; omega
theorem encL_bound {α : Type} (enc : α → List Int) (n : Nat) : ∀ (l : List α), (∀ x ∈ l, (enc x).length ≤ n) → (encL enc l).length ≤ n * l.length
  | [], _ => by simp [encL]
  | x :: l, h => by
    have h1 := h x (by simp)
    have h2 := encL_bound enc n l (fun y hy => h y (by simp [hy]))
    rw [encL_cons, List.length_append, List.length_cons, Nat.mul_add]
    omega
theorem putM_len {α : Type} (most : Nat) (fit : α → Bool) (enc : α → List Int) (hn : ∀ x, fit x = true → (enc x).length ≤ 300) (l : List α) : (putM most fit enc l).1.length ≤ 2 + 300 * most := by
  unfold putM
  split
  · simp
  · split
    · rename_i h1 h2
      have h3 := encL_bound enc 300 l (fun x hx => hn x (List.all_eq_true.1 h2 x hx))
      rw [List.length_append, le_length]
      have : 300 * l.length ≤ 300 * most := Nat.mul_le_mul_left _ (by omega)
      omega
    · simp
end Go.Proofs.Ytaefdfnhibmgdaa.Given
end

section
/- Printed by a program of this session (wip/pg.py, over the print of the kit): functions, their Lean twins, and the proofs that the calls come to them; each under the conditions that it names. -/
namespace Go.Proofs.Ytaefdfnhibmgdaa.PTab
open Go.Proofs.Ytaefdfnhibmgdaa.Given
open Go.RowKit Go.Proofs.YtaefdfnhibmgdaaW.PrintWords Go.Proofs.YtaefdfnhibmgdaaW.PrintLast Go.Proofs.YtaefdfnhibmgdaaW.PrintMore
attribute [local go_sem] max2_int min2_int max_two min_two max_three min_three max_four min_four   -- for this text's walks alone
set_option linter.unusedVariables false
set_option linter.unusedSimpArgs false

theorem eqA34 (d : Nat) (w : World) (x0 y0 : ByteArray) (x1 y1 : Int) :
    (Op.equalIn (d + 2) 34 (.agg #[.string x0, .int .i64 x1]) (.agg #[.string y0, .int .i64 y1])).run Try.prog w = .ok (x0.toList == y0.toList && (x1 == y1)) w := by
  refine eqA_of Try.underlying34 (by kernel_rfl) ?_
  refine eqf_cons (by rfl) (by go_simp; rfl) (by go_simp; rfl) (by go_simp) ?_
  exact eqf_last (by rfl) (by go_simp; rfl) (by go_simp; rfl) (by go_simp)
end Go.Proofs.Ytaefdfnhibmgdaa.PTab
end

section
/- Printed by a program of this session (wip/pg.py, over the print of the kit): functions, their Lean twins, and the proofs that the calls come to them; each under the conditions that it names. -/
namespace Go.Proofs.Ytaefdfnhibmgdaa.PTab
open Go.Proofs.Ytaefdfnhibmgdaa.Given
open Go.RowKit Go.Proofs.YtaefdfnhibmgdaaW.PrintWords Go.Proofs.YtaefdfnhibmgdaaW.PrintLast Go.Proofs.YtaefdfnhibmgdaaW.PrintMore
attribute [local go_sem] max2_int min2_int max_two min_two max_three min_three max_four min_four   -- for this text's walks alone
set_option linter.unusedVariables false
set_option linter.unusedSimpArgs false

attribute [local go_sem high] eqA34
/-! ### ladderbackref14_Blocks: function 13 -/
def ladderbackref14_Blocks.l0 : Nat → List (S34) → List Int → Int → Option (List Int × Bool)
  | 0, _, _, _ => none
  | k + 1, x0, x4, x5 => if x5 < (x0.length : Int) then (if 0 ≤ x5 then (if (((rd_T34 x0 x5).f0).size : Int) > 255 then (some (([] : List Int), false)) else ((ladderbackref14_small.f ((rd_T34 x0 x5).f1)).bind fun t329 => (if t329 = true then ((ladderbackref03_Text.f k x4 ((rd_T34 x0 x5).f0)).bind fun t331 => ((some (([((rd_T34 x0 x5).f1) % 256] : List Int) : List Int)).bind fun y335 => (if t331.length + y335.length < 140737488355328 then (ladderbackref14_Blocks.l0 k x0 (t331 ++ y335) (wrap64 (x5 + 1))) else (none)))) else (some (([] : List Int), false))))) else (none)) else (some (x4, true))
def ladderbackref14_Blocks.f (k : Nat) (l0 : List (S34)) : Option (List Int × Bool) := if (l0.length : Int) > 32 then (some (([] : List Int), false)) else ((ladderbackref03_Put.f k ([] : List Int) 2 (l0.length : Int)).bind fun t324 => (ladderbackref14_Blocks.l0 k l0 t324 0))
def ladderbackref14_Blocks.T9 : Bool × List (List Nat × List Nat) := (true, [([], []), ([], []), ([], []), ([1, 2], [1, 2]), ([3], [3]), ([4], [4]), ([0, 5], [0, 5]), ([], []), ([], []), ([7, 8], [7, 8]), ([9], [9]), ([10], [10]), ([11], [11]), ([12], [12]), ([6, 13, 6], [6, 13]), ([14, 14, 0, 1, 2, 3, 4, 5, 6, 7, 8, 9, 10, 11, 12, 13, 14], [0, 14])])
def ladderbackref14_Blocks.B9 : List Nat := [0, 0, 0, 6, 14, 30, 63, 0, 0, 384, 896, 1920, 3968, 8064, 16383, 32767]
-- NOT PRINTED: function 42 (tab_GetBlocks_1)

-- NOT PRINTED: function 41 (api_Block_41)

/-! ### ladderbackref14_SameBlocks: function 16 -/
def ladderbackref14_SameBlocks.l0 : Nat → List (S34) → List (S34) → Int → Option (Bool)
  | 0, _, _, _ => none
  | k + 1, x0, x1, x5 => if x5 < (x0.length : Int) then (if 0 ≤ x5 then (if x5 < (x1.length : Int) then (if (!((((rd_T34 x0 x5).f0).toList) == (((rd_T34 x1 x5).f0).toList)) || (!(((rd_T34 x0 x5).f1) == ((rd_T34 x1 x5).f1)))) = true then (some false) else (ladderbackref14_SameBlocks.l0 k x0 x1 (wrap64 (x5 + 1)))) else (none)) else (none)) else (some true)
def ladderbackref14_SameBlocks.f (k : Nat) (l0 : List (S34)) (l1 : List (S34)) : Option (Bool) := if (l0.length : Int) = (l1.length : Int) then (ladderbackref14_SameBlocks.l0 k l0 l1 0) else (some false)
end Go.Proofs.Ytaefdfnhibmgdaa.PTab
end

section
/- Printed by a program of this session (wip/pg.py, over the print of the kit): functions, their Lean twins, and the proofs that the calls come to them; each under the conditions that it names. -/
namespace Go.Proofs.Ytaefdfnhibmgdaa.PTab
open Go.Proofs.Ytaefdfnhibmgdaa.Given
open Go.RowKit Go.Proofs.YtaefdfnhibmgdaaW.PrintWords Go.Proofs.YtaefdfnhibmgdaaW.PrintLast Go.Proofs.YtaefdfnhibmgdaaW.PrintMore
attribute [local go_sem] max2_int min2_int max_two min_two max_three min_three max_four min_four   -- for this text's walks alone
set_option linter.unusedVariables false
set_option linter.unusedSimpArgs false

/-! ### ladderbacklaw14_TabBlocks: function 4 -/
mutual
def ladderbacklaw14_TabBlocks.j0 : Nat → List (S34) → List Int → Bool → Option (Bool)
  | 0, _, _, _ => none
  | k + 1, x0, x1, x25 => if x25 = true then ((ladderbacklaw14_awake.f k).bind fun t344 => (some t344)) else (ladderbacklaw14_TabBlocks.l0 k x0 x1 0)
def ladderbacklaw14_TabBlocks.l0 : Nat → List (S34) → List Int → Int → Option (Bool)
  | 0, _, _, _ => none
  | k + 1, x0, x1, x5 => if x5 < (x0.length : Int) then (if 0 ≤ x5 then (if (((rd_T34 x0 x5).f0).size : Int) > 300 then ((ladderbacklaw14_awake.f k).bind fun t346 => (some t346)) else (ladderbacklaw14_TabBlocks.l0 k x0 x1 (wrap64 (x5 + 1)))) else (none)) else ((tab_PutBlocks.f k x0).bind fun bt347 => ((ladderbackref14_Blocks.f k x0).bind fun bt351 => ((tab_GetBlocks.f x1).bind fun bt355 => ((ladderbackref14_GetBlocks.f x1).bind fun bt359 => (if (strOfNums bt347.1).toList = (strOfNums bt351.1).toList then (if (bt347.2 != bt351.2) = true then (ladderbacklaw14_TabBlocks.j2 k x0 x1 bt347.1 bt347.2 bt355.1 bt355.2 true) else ((ladderbackref14_SameBlocks.f k bt355.1 bt359.1).bind fun t363 => (if t363 = true then (ladderbacklaw14_TabBlocks.j2 k x0 x1 bt347.1 bt347.2 bt355.1 bt355.2 (bt355.2 != bt359.2)) else (ladderbacklaw14_TabBlocks.j2 k x0 x1 bt347.1 bt347.2 bt355.1 bt355.2 true)))) else (ladderbacklaw14_TabBlocks.j2 k x0 x1 bt347.1 bt347.2 bt355.1 bt355.2 true))))))
def ladderbacklaw14_TabBlocks.j2 : Nat → List (S34) → List Int → List Int → Bool → List (S34) → Int → Bool → Option (Bool)
  | 0, _, _, _, _, _, _, _ => none
  | k + 1, x0, x1, x6, x7, x10, x11, x81 => if x81 = true then (some false) else ((tab_GetBlocks.f x6).bind fun bt364 => ((tab_PutBlocks.f k x10).bind fun bt368 => (if x7 = true then (if bt364.2 = 0 then ((ladderbackref14_SameBlocks.f k bt364.1 x0).bind fun t372 => (if t372 = true then (if x11 = 0 then (if bt368.2 = true then (if (strOfNums bt368.1).toList = (strOfNums x1).toList then ((ladderbacklaw14_awake.f k).bind fun t373 => (some t373)) else (some false)) else (some false)) else ((ladderbacklaw14_awake.f k).bind fun t374 => (some t374))) else (some false))) else (some false)) else (if x11 = 0 then (if bt368.2 = true then (if (strOfNums bt368.1).toList = (strOfNums x1).toList then ((ladderbacklaw14_awake.f k).bind fun t375 => (some t375)) else (some false)) else (some false)) else ((ladderbacklaw14_awake.f k).bind fun t376 => (some t376))))))
end
def ladderbacklaw14_TabBlocks.f (k : Nat) (l0 : List (S34)) (l1 : List Int) : Option (Bool) := if (l0.length : Int) > 40 then (ladderbacklaw14_TabBlocks.j0 k l0 l1 true) else (ladderbacklaw14_TabBlocks.j0 k l0 l1 (decide ((l1.length : Int) > 500)))
end Go.Proofs.Ytaefdfnhibmgdaa.PTab
end

section
/- TabBlocks, the plain law. -/
namespace Go.Proofs.Ytaefdfnhibmgdaa.Given
open Go.RowKit Go.Proofs.Ytaefdfnhibmgdaa.PTab Go.Proofs.YtaefdfnhibmgdaaW.PrintWords Go.Proofs.YtaefdfnhibmgdaaW.PrintLast Go.Proofs.YtaefdfnhibmgdaaW.PrintMore
set_option linter.unusedVariables false
set_option linter.unusedSimpArgs false

theorem blk_rd (l : List SB) (i : Nat) (h : i < l.length) : rd_T34 l (i : Int) = l[i] := by
  unfold rd_T34
  rw [Int.toNat_natCast, List.getD_eq_getElem?_getD, List.getElem?_eq_getElem h]
  rfl
theorem blk_fit (x : SB) (k : Nat) (hk : 20 ≤ k) : tab_PutBlocks_1.f k x.f0 x.f1 = some (blkFit x) := by
  unfold tab_PutBlocks_1.f tab_named.f blkFit
  simp only [Option.bind_some]
  have e : decide ((x.f0.size : Int) ≤ 255) = decide (x.f0.size ≤ 255) := decide_eq_decide.2 (by omega)
  rw [e]
  by_cases h : x.f0.size ≤ 255
  · rw [decide_eq_true h, if_pos rfl, small_f [x.f1] (by simp) k hk]
    simp
  · rw [decide_eq_false h]; simp
theorem blk_put (x : SB) (l : List Int) (hl : l.length ≤ 1000000) (hf : blkFit x = true) : tab_PutBlocks_2.f l x.f0 x.f1 = some (l ++ blkEnc x) := by
  unfold blkFit at hf
  simp only [Bool.and_eq_true, decide_eq_true_eq] at hf
  unfold tab_PutBlocks_2.f blkEnc
  rw [textT l x.f0 (by omega) hf.1]
  simp only [Option.bind_some]
  rw [put1 _ x.f1 (by rw [List.length_append, encT_len]; omega), List.append_assoc]
  rfl
theorem blk_len (x : SB) (h : blkFit x = true) : (blkEnc x).length ≤ 300 := by
  unfold blkFit at h
  simp only [Bool.and_eq_true, decide_eq_true_eq] at h
  unfold blkEnc
  rw [List.length_append, encT_len, le_length]
  omega
theorem blk_loop (l : List SB) (hl : l.length ≤ 32) : ∀ (d i k : Nat) (o : List Int), i + d = l.length → 400 + d < k → o.length ≤ 2 + 300 * i → api_Block_35.l0 k o l (l.length : Int) (i : Int) = some (if (l.drop i).all blkFit = true then (o ++ encL blkEnc (l.drop i), true) else ([], false)) := by
  intro d
  induction d with
  | zero =>
    intro i k o h1 h2 h3
    obtain ⟨k, rfl⟩ : ∃ m, k = m + 1 := ⟨k - 1, by omega⟩
    rw [api_Block_35.l0, if_neg (by omega), List.drop_eq_nil_of_le (by omega)]
    simp [encL]
  | succ d ih =>
    intro i k o h1 h2 h3
    obtain ⟨k, rfl⟩ : ∃ m, k = m + 1 := ⟨k - 1, by omega⟩
    have hil : i < l.length := by omega
    rw [api_Block_35.l0, if_pos (by omega), if_pos (by omega), if_pos (by omega), blk_rd l i hil, blk_fit l[i] k (by omega)]
    simp only [Option.bind_some]
    by_cases hf : blkFit l[i] = true
    · rw [if_pos hf, blk_put l[i] o (by omega) hf]
      simp only [Option.bind_some]
      rw [wl i (by omega), ih (i + 1) k _ (by omega) (by omega) (by rw [List.length_append]; have := blk_len l[i] hf; omega)]
      rw [List.drop_eq_getElem_cons hil, List.all_cons, hf, Bool.true_and, encL_cons, List.append_assoc]
    · rw [if_neg hf]
      rw [List.drop_eq_getElem_cons hil, List.all_cons, show blkFit l[i] = false by simpa using hf]
      rfl
theorem blk_prog (l : List SB) (k : Nat) (hk : 2000 ≤ k) : tab_PutBlocks.f k l = some (putM 32 blkFit blkEnc l) := by
  unfold tab_PutBlocks.f api_Block_35.f putM
  by_cases h : l.length > 32
  · rw [if_pos (by omega), if_pos h]; rfl
  · rw [if_neg (by omega), if_neg h, put2]
    simp only [Option.bind_some]
    have := blk_loop l (by omega) l.length 0 k (le 2 (l.length : Int)) (by omega) (by omega) (by rw [le_length]; omega)
    rw [List.drop_zero] at this
    rw [show (0 : Int) = ((0 : Nat) : Int) from rfl, this]
    simp only [Option.bind_some]
theorem rblk_loop (l : List SB) (hl : l.length ≤ 32) : ∀ (d i k : Nat) (o : List Int), i + d = l.length → 400 + 2 * d < k → o.length ≤ 2 + 300 * i → ladderbackref14_Blocks.l0 k l o (i : Int) = some (if (l.drop i).all blkFit = true then (o ++ encL blkEnc (l.drop i), true) else ([], false)) := by
  intro d
  induction d with
  | zero =>
    intro i k o h1 h2 h3
    obtain ⟨k, rfl⟩ : ∃ m, k = m + 1 := ⟨k - 1, by omega⟩
    rw [ladderbackref14_Blocks.l0, if_neg (by omega), List.drop_eq_nil_of_le (by omega)]
    simp [encL]
  | succ d ih =>
    intro i k o h1 h2 h3
    obtain ⟨k, rfl⟩ : ∃ m, k = m + 1 := ⟨k - 1, by omega⟩
    have hil : i < l.length := by omega
    rw [ladderbackref14_Blocks.l0, if_pos (by omega), if_pos (by omega), blk_rd l i hil]
    by_cases hz : ((l[i].f0.size : Nat) : Int) > 255
    · rw [if_pos hz]
      have hf : ¬ blkFit l[i] = true := by unfold blkFit; simp; omega
      rw [List.drop_eq_getElem_cons hil, List.all_cons, show blkFit l[i] = false by simpa using hf]
      rfl
    · rw [if_neg hz, rsmall]
      simp only [Option.bind_some]
      by_cases hs : small l[i].f1 = true
      · have hf : blkFit l[i] = true := by unfold blkFit; rw [hs]; simp; omega
        rw [if_pos hs, rtextT o l[i].f0 (by omega) (by omega) k (by omega)]
        simp only [Option.bind_some]
        rw [if_pos (by rw [List.length_append, encT_len, List.length_singleton]; omega)]
        rw [show o ++ encT l[i].f0 ++ [l[i].f1 % 256] = o ++ blkEnc l[i] by unfold blkEnc; rw [List.append_assoc]; rfl]
        rw [wl i (by omega), ih (i + 1) k _ (by omega) (by omega) (by rw [List.length_append]; have := blk_len l[i] hf; omega)]
        rw [List.drop_eq_getElem_cons hil, List.all_cons, hf, Bool.true_and, encL_cons, List.append_assoc]
      · have hf : ¬ blkFit l[i] = true := by unfold blkFit; simp [hs]
        rw [if_neg hs]
        rw [List.drop_eq_getElem_cons hil, List.all_cons, show blkFit l[i] = false by simpa using hf]
        rfl
theorem blk_ref (l : List SB) (k : Nat) (hk : 3000 ≤ k) : ladderbackref14_Blocks.f k l = some (putM 32 blkFit blkEnc l) := by
  unfold ladderbackref14_Blocks.f putM
  by_cases h : l.length > 32
  · rw [if_pos (by omega), if_pos h]
  · rw [if_neg (by omega), if_neg h, rput2 _ k (by omega)]
    simp only [Option.bind_some]
    have := rblk_loop l (by omega) l.length 0 k (le 2 (l.length : Int)) (by omega) (by omega) (by rw [le_length]; omega)
    rw [List.drop_zero] at this
    rw [show (0 : Int) = ((0 : Nat) : Int) from rfl, this]
theorem blk_same_l (l : List SB) (hl : l.length ≤ 100000) : ∀ (d i k : Nat), i + d = l.length → d < k → ladderbackref14_SameBlocks.l0 k l l (i : Int) = some true := by
  intro d
  induction d with
  | zero =>
    intro i k h1 h2
    obtain ⟨k, rfl⟩ : ∃ m, k = m + 1 := ⟨k - 1, by omega⟩
    rw [ladderbackref14_SameBlocks.l0, if_neg (by omega)]
  | succ d ih =>
    intro i k h1 h2
    obtain ⟨k, rfl⟩ : ∃ m, k = m + 1 := ⟨k - 1, by omega⟩
    rw [ladderbackref14_SameBlocks.l0, if_pos (by omega), if_pos (by omega), if_pos (by omega), if_neg (by simp), wl i (by omega)]
    exact ih (i + 1) k (by omega) (by omega)
theorem blk_same (l : List SB) (hl : l.length ≤ 2000) (k : Nat) (hk : 2100 ≤ k) : ladderbackref14_SameBlocks.f k l l = some true := by
  unfold ladderbackref14_SameBlocks.f
  rw [if_pos rfl]
  exact blk_same_l l (by omega) l.length 0 k (by omega) (by omega)
theorem awake14 (k : Nat) (hk : 2000 ≤ k) : ladderbacklaw14_awake.f k = some true := by
  unfold ladderbacklaw14_awake.f
  rw [blk_prog _ k hk]
  simp only [Option.bind_some]
  have e : putM 32 blkFit blkEnc [(⟨(⟨#[97]⟩ : ByteArray), 1⟩ : SB)] = ([1, 0, 1, 97, 1], true) := by decide +kernel
  rw [e]
  dsimp only
  rw [if_pos rfl, show (strOfNums [1, 0, 1, 97, 1]).toList = [1, 0, 1, 97, 1] by rw [ByteArray.toList_eq]; rfl]
  rfl
theorem blk_get_len (b : List Int) (hb : okB b = true) : (getR blkR 32 b).1.length ≤ 32 := by
  by_cases h : (getR blkR 32 b).2 = 0
  · have h2 : putM 32 blkFit blkEnc (getR blkR 32 b).1 = (b, true) := get_inv blkSpec 32 (by decide) b hb h
    unfold putM at h2
    by_cases c : (getR blkR 32 b).1.length > 32
    · rw [if_pos c] at h2
      injection h2 with _ h2
      cases h2
    · omega
  · have h2 : (getR blkR 32 b).1 = [] := by
      unfold getR at h ⊢
      by_cases c1 : (headR 32 b).2 = 0
      · rw [if_pos c1] at h ⊢
        split
        · rename_i c2
          rw [if_pos c2] at h
          exact absurd rfl h
        · rfl
      · rw [if_neg c1]
    rw [h2]
    exact Nat.zero_le _
theorem blk_tail (l : List SB) (hl : l.length ≤ 1100) (hwf : ∀ x ∈ l, (fun _ => True) x) (b : List Int) (hb : okB b = true) (k : Nat) (hk : 3000 ≤ k) :
    ladderbacklaw14_TabBlocks.j2 (k + 1) l b (putM 32 blkFit blkEnc l).1 (putM 32 blkFit blkEnc l).2 (getR blkR 32 b).1 (getR blkR 32 b).2 false = some true := by
  have hx : okB (putM 32 blkFit blkEnc l).1 = true := put_ok blkSpec 32 l (by have := putM_len 32 blkFit blkEnc blk_len l; omega)
  have hm := blk_get_len b hb
  rw [ladderbacklaw14_TabBlocks.j2, if_neg (by decide)]
  unfold tab_GetBlocks.f
  rw [if_pos hx]
  simp only [Option.bind_some]
  rw [blk_prog _ k (by omega)]
  simp only [Option.bind_some]
  rw [awake14 k (by omega)]
  have h2 : (getR blkR 32 b).2 = 0 → putM 32 blkFit blkEnc (getR blkR 32 b).1 = (b, true) := get_inv blkSpec 32 (by decide) b hb
  have last : (if (getR blkR 32 b).2 = 0 then (if (putM 32 blkFit blkEnc (getR blkR 32 b).1).2 = true then (if (strOfNums (putM 32 blkFit blkEnc (getR blkR 32 b).1).1).toList = (strOfNums b).toList then ((some true).bind fun t => (some t)) else (some false)) else (some false)) else ((some true).bind fun t => (some t))) = some true := by
    by_cases c : (getR blkR 32 b).2 = 0
    · rw [if_pos c, h2 c, if_pos rfl, if_pos rfl]; rfl
    · rw [if_neg c]; rfl
  by_cases ho : (putM 32 blkFit blkEnc l).2 = true
  · have h1 : getR blkR 32 (putM 32 blkFit blkEnc l).1 = (l, 0) := get_put blkSpec 32 (by decide) l hwf ho
    rw [if_pos ho, h1]
    rw [if_pos rfl, blk_same l (by omega) k (by omega)]
    simp only [Option.bind_some] at last ⊢
    rw [if_pos trivial]
    exact last
  · rw [if_neg ho]
    exact last
theorem TabBlocks_l0 (l : List SB) (hl : l.length ≤ 40) (hwf : ∀ x ∈ l, (fun _ => True) x) (b : List Int) (hb : okB b = true) : ∀ (d i k : Nat), i + d = l.length → 5000 + d ≤ k → ladderbacklaw14_TabBlocks.l0 k l b (i : Int) = some true := by
  intro d
  induction d with
  | zero =>
    intro i k h1 h2
    obtain ⟨k, rfl⟩ : ∃ m, k = m + 1 := ⟨k - 1, by omega⟩
    rw [ladderbacklaw14_TabBlocks.l0, if_neg (by omega)]
    rw [blk_prog l k (by omega)]
    simp only [Option.bind_some]
    rw [blk_ref l k (by omega)]
    simp only [Option.bind_some]
    unfold tab_GetBlocks.f ladderbackref14_GetBlocks.f
    rw [if_pos hb]
    simp only [Option.bind_some]
    rw [if_pos trivial, if_neg (by simp), blk_same _ (by have := blk_get_len b hb; omega) k (by omega)]
    simp only [Option.bind_some]
    rw [if_pos trivial, show ((getR blkR 32 b).2 != (getR blkR 32 b).2) = false by simp]
    obtain ⟨k, rfl⟩ : ∃ m, k = m + 1 := ⟨k - 1, by omega⟩
    exact blk_tail l (by omega) hwf b hb k (by omega)
  | succ d ih =>
    intro i k h1 h2
    obtain ⟨k, rfl⟩ : ∃ m, k = m + 1 := ⟨k - 1, by omega⟩
    have hil : i < l.length := by omega
    rw [ladderbacklaw14_TabBlocks.l0, if_pos (by omega), if_pos (by omega), blk_rd l i hil]
    by_cases hz : ((l[i].f0.size : Nat) : Int) > 300
    · rw [if_pos hz, awake14 k (by omega)]; rfl
    · rw [if_neg hz, wl i (by omega)]
      exact ih (i + 1) k (by omega) (by omega)
theorem TabBlocks (l : List SB) (hwf : ∀ x ∈ l, (fun _ => True) x) (b : List Int) (hbb : ∀ x ∈ b, 0 ≤ x ∧ x < 256) : ladderbacklaw14_TabBlocks.f 10000 l b = some true := by
  have stop : ladderbacklaw14_TabBlocks.j0 10000 l b true = some true := by
    rw [show 10000 = 9999 + 1 from rfl, ladderbacklaw14_TabBlocks.j0, if_pos rfl, awake14 9999 (by omega)]
    rfl
  unfold ladderbacklaw14_TabBlocks.f
  by_cases h1 : (l.length : Int) > 40
  · rw [if_pos h1]; exact stop
  · rw [if_neg h1]
    by_cases h2 : (b.length : Int) > 500
    · rw [decide_eq_true h2]; exact stop
    · rw [decide_eq_false h2]
      have hb : okB b = true := by
        unfold okB
        simp only [Bool.and_eq_true, List.all_eq_true, decide_eq_true_eq]
        exact ⟨hbb, by omega⟩
      rw [show 10000 = 9999 + 1 from rfl, ladderbacklaw14_TabBlocks.j0, if_neg (by decide)]
      exact TabBlocks_l0 l (by omega) hwf b hb l.length 0 9999 (by omega) (by omega)
end Go.Proofs.Ytaefdfnhibmgdaa.Given
end

section
/- Printed by a program of this session (wip/pg.py, over the print of the kit): functions, their Lean twins, and the proofs that the calls come to them; each under the conditions that it names. -/
namespace Go.Proofs.Ytaefdfnhibmgdaa.PTab
open Go.Proofs.Ytaefdfnhibmgdaa.Given
open Go.RowKit Go.Proofs.YtaefdfnhibmgdaaW.PrintWords Go.Proofs.YtaefdfnhibmgdaaW.PrintLast Go.Proofs.YtaefdfnhibmgdaaW.PrintMore
attribute [local go_sem] max2_int min2_int max_two min_two max_three min_three max_four min_four   -- for this text's walks alone
set_option linter.unusedVariables false
set_option linter.unusedSimpArgs false

theorem eqA42 (d : Nat) (w : World) (x0 y0 : ByteArray) (x1 y1 : Int) (x2 y2 : Int) (x3 y3 : Int) (x4 y4 : Int) :
    (Op.equalIn (d + 2) 42 (.agg #[.string x0, .int .i64 x1, .int .i64 x2, .int .i64 x3, .int .i64 x4]) (.agg #[.string y0, .int .i64 y1, .int .i64 y2, .int .i64 y3, .int .i64 y4])).run Try.prog w = .ok (x0.toList == y0.toList && (x1 == y1 && (x2 == y2 && (x3 == y3 && (x4 == y4))))) w := by
  refine eqA_of Try.underlying42 (by kernel_rfl) ?_
  refine eqf_cons (by rfl) (by go_simp; rfl) (by go_simp; rfl) (by go_simp) ?_
  refine eqf_cons (by rfl) (by go_simp; rfl) (by go_simp; rfl) (by go_simp) ?_
  refine eqf_cons (by rfl) (by go_simp; rfl) (by go_simp; rfl) (by go_simp) ?_
  refine eqf_cons (by rfl) (by go_simp; rfl) (by go_simp; rfl) (by go_simp) ?_
  exact eqf_last (by rfl) (by go_simp; rfl) (by go_simp; rfl) (by go_simp)
end Go.Proofs.Ytaefdfnhibmgdaa.PTab
end
