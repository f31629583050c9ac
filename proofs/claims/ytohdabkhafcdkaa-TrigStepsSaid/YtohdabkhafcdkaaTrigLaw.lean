/- The walk of TrigSteps: for any kind and any block of ten numbers its call returns true. -/
import Derived.Test.YtohdabkhafcdkaaTrigRef
import Derived.Test.YtohdabkhafcdkaaReg
import Derived.Test.YtohdabkhafcdkaaWInvWords
import Derived.Test.YtohdabkhafcdkaaWEqStruct
import Derived.ChangeKeysEq
namespace Go.Proofs.Ytohdabkhafcdkaa
open Go Go.RowKit Go.Proofs.YtohdabkhafcdkaaW.PrintWords Go.Proofs.YtohdabkhafcdkaaW.PrintLast Go.Proofs.YtohdabkhafcdkaaW.PrintMore
set_option linter.unusedVariables false
set_option linter.unusedSimpArgs false
theorem stepped_ints (kind x0 x1 x2 x3 x4 x5 x6 x7 x8 x9 : Int) : ∃ y1 y2 : Int, stepped kind x0 x1 x2 x3 x4 x5 x6 x7 x8 x9 = instL x0 y1 y2 x3 x4 x5 x6 x7 x8 x9 := by
  unfold stepped
  split
  · exact ⟨_, _, rfl⟩
  · exact ⟨_, _, rfl⟩
theorem eq_items_same (w : World) (xs : Array Value) : ∀ is : List Nat, (∀ j ∈ is, ∃ v, xs[j]? = some (.int .i64 v)) → (Op.eqItems 9998 3 1 xs xs is).run Try.prog w = .ok true w := by
  intro is
  induction is with
  | nil => intro _; simp [Op.eqItems]
  | cons j is ih =>
    intro h
    obtain ⟨v, hv⟩ := h j (by simp)
    have hp := run_part_plain (P := Try.prog) (w := w) (e := 3) (by kernel_rfl) hv
    have he : (Op.equalIn 9998 3 (.int .i64 v) (.int .i64 v)).run Try.prog w = .ok true w := by go_simp
    have hi := ih (fun k hk => h k (by simp [hk]))
    simp [Op.eqItems, Sem.run_bind, hp, he, hi]
theorem eq_ten (x0 x1 x2 x3 x4 x5 x6 x7 x8 x9 : Int) (w : World) : (Op.equalIn 9999 22 (.agg (List.take 10 (instL x0 x1 x2 x3 x4 x5 x6 x7 x8 x9)).toArray) (.agg (List.take 10 (instL x0 x1 x2 x3 x4 x5 x6 x7 x8 x9)).toArray)).run Try.prog w = .ok true w := by
  have hi : ∃ i, Try.prog.info? 3 = some i := by
    have : (Try.prog.info? 3).isSome = true := by kernel_rfl
    exact Option.isSome_iff_exists.1 this
  obtain ⟨i, hi⟩ := hi
  have h := run_equalIn_array (P := Try.prog) (w := w) 9998 (List.take 10 (instL x0 x1 x2 x3 x4 x5 x6 x7 x8 x9)).toArray (List.take 10 (instL x0 x1 x2 x3 x4 x5 x6 x7 x8 x9)).toArray Try.underlying22 hi
  rw [h, show Try.prog.cellsOf 3 = 1 from by kernel_rfl]
  refine eq_items_same w _ _ (fun j hj => ?_)
  have hj' : j < 10 := List.mem_range.1 hj
  rcases (by omega : j = 0 ∨ j = 1 ∨ j = 2 ∨ j = 3 ∨ j = 4 ∨ j = 5 ∨ j = 6 ∨ j = 7 ∨ j = 8 ∨ j = 9) with rfl | rfl | rfl | rfl | rfl | rfl | rfl | rfl | rfl | rfl <;> exact ⟨_, rfl⟩
set_option maxHeartbeats 4000000 in
theorem TrigSteps_7 (x0 x1 x2 x3 x4 x5 x6 x7 x8 x9 : Int) (w : World) :
    Calls Try.prog 3 #[.int .i64 7, .agg (instL x0 x1 x2 x3 x4 x5 x6 x7 x8 x9).toArray] w fun e w' => e = .returned (.bool true) ∧ Below w.heap.size w w' := by
  have hi : (Try.prog.info? 24).map (·.size) = some 10 := by kernel_rfl
  have HI : Aside0 (∀ w : World, Calls Try.prog 11 #[.int .i64 7] w fun e w' => e = .returned (.bool true) ∧ w' = w) := ⟨fun w => by
    have h := Is_calls 7 w
    first | exact h | (rw [show decide (7 = 7 ∨ 7 = 8) = true from by simp] at h; exact h)⟩
  go_enter Try.func3, Try.ntmps3
  go_wp2_with fail
  have B0 := Aside0.mk (Blk.Is.new w 24 (instL x0 x1 x2 x3 x4 x5 x6 x7 x8 x9))
  have hb0 : Below w.heap.size w (w.alloc (.cells (instL x0 x1 x2 x3 x4 x5 x6 x7 x8 x9).toArray 24)) := (Below.refl _ _).alloc (Nat.le_refl _) _
  generalize w.alloc (.cells (instL x0 x1 x2 x3 x4 x5 x6 x7 x8 x9).toArray 24) = w1 at *
  obtain ⟨g, hg⟩ : ∃ g, g = w.heap.size := ⟨_, rfl⟩
  rw [← hg] at B0 ⊢
  refine Reg.region_any [some 5, some 6, some 7, some 8, some 9, some 10, some 11, some 12, some 13, some 14, some 15, some 16, some 17, some 18, some 19, some 20, some 21, some 22, some 23, some 24, some 25, some 4] [0, 0, 3, 0, 0, 31, 63, 127, 255, 511, 255, 1279, 4095, 8191, 16383, 32767, 65535, 131071, 262143, 524287, 1048575, 2097151] (true, [([], []), ([], []), ([0, 1], [0, 1]), ([], []), ([], []), ([3, 4, 2], [3, 4]), ([2, 5], [2, 5]), ([6, 5], [6]), ([7], [7]), ([8, 7, 7], [7, 8]), ([7], [7]), ([10, 7], [7, 10]), ([11, 9, 7], [7, 11]), ([12], [12]), ([13, 12], [12, 13]), ([12, 14, 7], [7, 12, 14]), ([9, 15, 7], [7, 9, 15]), ([7, 16], [7, 16]), ([17, 12], [17]), ([18, 18], [18]), ([18, 19], [18, 19]), ([20, 19, 0, 1, 2, 3, 4, 5, 6, 7, 8, 9, 10, 11, 12, 13, 14, 15, 16, 17, 18, 19, 20], [20])]) (fun i => ([(fun _ v_ => v_ = (.int .i64 7)), (fun _ v_ => v_ = (.agg (instL x0 x1 x2 x3 x4 x5 x6 x7 x8 x9).toArray)), (fun _ v_ => v_ = (.agg (stepped 7 x0 x1 x2 x3 x4 x5 x6 x7 x8 x9).toArray)), (fun _ v_ => v_ = (.int .i64 7)), (fun _ v_ => v_ = (.agg (instL x0 x1 x2 x3 x4 x5 x6 x7 x8 x9).toArray)), (fun _ v_ => v_ = (.agg (stepped 7 x0 x1 x2 x3 x4 x5 x6 x7 x8 x9).toArray)), (fun _ v_ => v_ = (.bool true)), (fun _ v_ => v_ = (.bool true)), (fun _ v_ => v_ = (.int .i64 7)), (fun _ v_ => v_ = (.bool true)), (fun _ v_ => v_ = (.int .i64 7)), (fun _ v_ => v_ = (.bool true)), (fun _ v_ => v_ = (.bool true)), (fun _ v_ => v_ = undef), (fun _ v_ => v_ = undef), (fun _ v_ => v_ = (.bool true)), (fun _ v_ => v_ = (.bool true)), (fun _ v_ => v_ = (.bool true)), (fun _ v_ => v_ = (.bool true)), (fun _ v_ => v_ = (.bool true)), (fun _ v_ => v_ = (.bool true)), (fun _ v_ => v_ = (.bool true))] : List (World → Value → Prop)).getD i (fun _ _ => False))
      (by kernel_rfl) (by kernel_rfl) (by kernel_rfl) (by kernel_rfl) (by kernel_rfl) (by decide) (by rfl) (Reg.mono_getD ?_) [0, 1, 2, 3, 4, 5, 6, 7, 8, 9, 10, 11, 12, 13, 14, 15, 16, 17, 18, 19, 20, 21] (by kernel_rfl) ?_ ?_
  · exact Reg.monoS_cons (Reg.monoS_eq _) (Reg.monoS_cons (Reg.monoS_eq _) (Reg.monoS_cons (Reg.monoS_eq _) (Reg.monoS_cons (Reg.monoS_eq _) (Reg.monoS_cons (Reg.monoS_eq _) (Reg.monoS_cons (Reg.monoS_eq _) (Reg.monoS_cons (Reg.monoS_eq _) (Reg.monoS_cons (Reg.monoS_eq _) (Reg.monoS_cons (Reg.monoS_eq _) (Reg.monoS_cons (Reg.monoS_eq _) (Reg.monoS_cons (Reg.monoS_eq _) (Reg.monoS_cons (Reg.monoS_eq _) (Reg.monoS_cons (Reg.monoS_eq _) (Reg.monoS_cons (Reg.monoS_eq _) (Reg.monoS_cons (Reg.monoS_eq _) (Reg.monoS_cons (Reg.monoS_eq _) (Reg.monoS_cons (Reg.monoS_eq _) (Reg.monoS_cons (Reg.monoS_eq _) (Reg.monoS_cons (Reg.monoS_eq _) (Reg.monoS_cons (Reg.monoS_eq _) (Reg.monoS_cons (Reg.monoS_eq _) (Reg.monoS_cons (Reg.monoS_eq _) Reg.monoS_nil)))))))))))))))))))))
  · skip
    refine Reg.rs_cons ?_ ?_
    · intro a w hb hs hel hon
      have e0 : a.tmps[0]? = some (.int .i64 7) := (hel 0 (by decide)).trans rfl
      obtain ⟨_, g0⟩ := Array.getElem?_eq_some_iff.1 e0
      refine ⟨_, rfl, fun K hK => ?_⟩
      refine value_ (w1 := w) (v := .int .i64 7) (by rfl) rfl ?_ (hK.out _ _ (Below.refl _ _) (rfl))
      · go_simp
        (try simp only [i64_w, g0])
        (try go_simp)
        try rfl
    refine Reg.rs_cons ?_ ?_
    · intro a w hb hs hel hon
      have e3 : a.tmps[3]? = some (.pointer (some ⟨g, 0, none⟩)) := (hel 3 (by decide)).trans rfl
      obtain ⟨_, g3⟩ := Array.getElem?_eq_some_iff.1 e3
      refine ⟨_, rfl, fun K hK => ?_⟩
      have hl := run_loadVar_row (P := Try.prog) w g 24 24 (instL x0 x1 x2 x3 x4 x5 x6 x7 x8 x9).toArray (0, 0) _ (B0.out.below hb) Try.underlying24 rfl (by rw [hi]; rfl)
      refine value_ (w1 := w) (v := .agg (instL x0 x1 x2 x3 x4 x5 x6 x7 x8 x9).toArray) (by rfl) rfl ?_ (hK.out _ _ (Below.refl _ _) (rfl))
      · show (execOp a.eval _).run _ w = _
        simp only [execOp, Act.eval, Array.getD_eq_getD_getElem?, e3, Option.getD_some, Instr.loadAt, Instr.sureAddr, Sem.run_bind, Sem.run_pure, Result.andThen_ok, hl, List.getElem_toArray, List.getElem_cons_succ, List.getElem_cons_zero]
    refine Reg.rs_cons ?_ ?_
    · intro a w hb hs hel hon
      obtain ⟨_, e5, rfl⟩ := hon 0 5 (by kernel_rfl) rfl
      obtain ⟨_, e6, rfl⟩ := hon 1 6 (by kernel_rfl) rfl
      refine ⟨_, rfl, fun K hK => ?_⟩
      refine goes_ Try.func9 (by kernel_rfl) rfl #[.int .i64 7, .agg (instL x0 x1 x2 x3 x4 x5 x6 x7 x8 x9).toArray] (by rfl) rfl rfl (by first | (simp only [List.map_toArray, List.map_cons, List.map_nil, Act.eval, Array.getD_eq_getD_getElem?, Option.getD_some, e5, e6]; done) | (simp only [List.map_toArray, List.map_cons, List.map_nil, Act.eval, Array.getD_eq_getD_getElem?, Option.getD_some, e5, e6]; rfl) | rfl) ?_
      refine (Step_calls 7 x0 x1 x2 x3 x4 x5 x6 x7 x8 x9 w).mono ?_
      rintro e w2 ⟨rfl, hb2⟩
      exact ⟨_, rfl, hK.out _ _ hb2 rfl⟩
    refine Reg.rs_cons ?_ ?_
    · intro a w hb hs hel hon
      have e0 : a.tmps[0]? = some (.int .i64 7) := (hel 0 (by decide)).trans rfl
      obtain ⟨_, g0⟩ := Array.getElem?_eq_some_iff.1 e0
      refine ⟨_, rfl, fun K hK => ?_⟩
      refine value_ (w1 := w) (v := .int .i64 7) (by rfl) rfl ?_ (hK.out _ _ (Below.refl _ _) (rfl))
      · go_simp
        (try simp only [i64_w, g0])
        (try go_simp)
        try rfl
    refine Reg.rs_cons ?_ ?_
    · intro a w hb hs hel hon
      have e3 : a.tmps[3]? = some (.pointer (some ⟨g, 0, none⟩)) := (hel 3 (by decide)).trans rfl
      obtain ⟨_, g3⟩ := Array.getElem?_eq_some_iff.1 e3
      refine ⟨_, rfl, fun K hK => ?_⟩
      have hl := run_loadVar_row (P := Try.prog) w g 24 24 (instL x0 x1 x2 x3 x4 x5 x6 x7 x8 x9).toArray (0, 0) _ (B0.out.below hb) Try.underlying24 rfl (by rw [hi]; rfl)
      refine value_ (w1 := w) (v := .agg (instL x0 x1 x2 x3 x4 x5 x6 x7 x8 x9).toArray) (by rfl) rfl ?_ (hK.out _ _ (Below.refl _ _) (rfl))
      · show (execOp a.eval _).run _ w = _
        simp only [execOp, Act.eval, Array.getD_eq_getD_getElem?, e3, Option.getD_some, Instr.loadAt, Instr.sureAddr, Sem.run_bind, Sem.run_pure, Result.andThen_ok, hl, List.getElem_toArray, List.getElem_cons_succ, List.getElem_cons_zero]
    refine Reg.rs_cons ?_ ?_
    · intro a w hb hs hel hon
      obtain ⟨_, e8, rfl⟩ := hon 3 8 (by kernel_rfl) rfl
      obtain ⟨_, e9, rfl⟩ := hon 4 9 (by kernel_rfl) rfl
      refine ⟨_, rfl, fun K hK => ?_⟩
      refine goes_ Try.func10 (by kernel_rfl) rfl #[.int .i64 7, .agg (instL x0 x1 x2 x3 x4 x5 x6 x7 x8 x9).toArray] (by rfl) rfl rfl (by first | (simp only [List.map_toArray, List.map_cons, List.map_nil, Act.eval, Array.getD_eq_getD_getElem?, Option.getD_some, e8, e9]; done) | (simp only [List.map_toArray, List.map_cons, List.map_nil, Act.eval, Array.getD_eq_getD_getElem?, Option.getD_some, e8, e9]; rfl) | rfl) ?_
      refine (RefStep_calls 7 x0 x1 x2 x3 x4 x5 x6 x7 x8 x9 w).mono ?_
      rintro e w2 ⟨rfl, hb2⟩
      exact ⟨_, rfl, hK.out _ _ hb2 rfl⟩
    refine Reg.rs_cons ?_ ?_
    · intro a w hb hs hel hon
      obtain ⟨_, e7, rfl⟩ := hon 2 7 (by kernel_rfl) rfl
      obtain ⟨_, e10, rfl⟩ := hon 5 10 (by kernel_rfl) rfl
      obtain ⟨_, g7⟩ := Array.getElem?_eq_some_iff.1 e7
      obtain ⟨_, g10⟩ := Array.getElem?_eq_some_iff.1 e10
      refine ⟨_, rfl, fun K hK => ?_⟩
      refine value_ (w1 := w) (v := .bool true) (by rfl) rfl ?_ (hK.out _ _ (Below.refl _ _) (rfl))
      · go_simp
        obtain ⟨y1, y2, e⟩ := stepped_ints 7 x0 x1 x2 x3 x4 x5 x6 x7 x8 x9
        rw [e, eq_ten]
        rfl
    refine Reg.rs_cons ?_ ?_
    · intro a w hb hs hel hon
      obtain ⟨_, e11, rfl⟩ := hon 6 11 (by kernel_rfl) rfl
      obtain ⟨_, g11⟩ := Array.getElem?_eq_some_iff.1 e11
      refine ⟨_, rfl, fun K hK => ?_⟩
      refine value_ (w1 := w) (v := .bool true) (by rfl) rfl ?_ (hK.out _ _ (Below.refl _ _) (rfl))
      · go_simp
        (try simp only [i64_w, g11])
        (try go_simp)
        try rfl
    refine Reg.rs_cons ?_ ?_
    · intro a w hb hs hel hon
      have e0 : a.tmps[0]? = some (.int .i64 7) := (hel 0 (by decide)).trans rfl
      obtain ⟨_, e12, rfl⟩ := hon 7 12 (by kernel_rfl) rfl
      obtain ⟨_, g0⟩ := Array.getElem?_eq_some_iff.1 e0
      obtain ⟨_, g12⟩ := Array.getElem?_eq_some_iff.1 e12
      refine ⟨_, rfl, fun K hK => ?_⟩
      refine value_ (w1 := w) (v := .int .i64 7) (wanted_on rfl rfl rfl e12) rfl ?_ (hK.out _ _ (Below.refl _ _) (rfl))
      · go_simp
        (try simp only [i64_w, g0, g12])
        (try go_simp)
        try rfl
    refine Reg.rs_cons ?_ ?_
    · intro a w hb hs hel hon
      obtain ⟨_, e13, rfl⟩ := hon 8 13 (by kernel_rfl) rfl
      obtain ⟨_, e12, rfl⟩ := hon 7 12 (by kernel_rfl) rfl
      refine ⟨_, rfl, fun K hK => ?_⟩
      refine goes_ Try.func11 (by kernel_rfl) rfl #[.int .i64 7] (wanted_on rfl rfl rfl e12) rfl rfl (by first | (simp only [List.map_toArray, List.map_cons, List.map_nil, Act.eval, Array.getD_eq_getD_getElem?, Option.getD_some, e13, e12]; done) | (simp only [List.map_toArray, List.map_cons, List.map_nil, Act.eval, Array.getD_eq_getD_getElem?, Option.getD_some, e13, e12]; rfl) | rfl) ?_
      refine (HI.out w).mono ?_
      rintro e w2 ⟨rfl, rfl⟩
      exact ⟨_, rfl, hK.out _ _ (Below.refl _ _) rfl⟩
    refine Reg.rs_cons ?_ ?_
    · intro a w hb hs hel hon
      have e0 : a.tmps[0]? = some (.int .i64 7) := (hel 0 (by decide)).trans rfl
      obtain ⟨_, e12, rfl⟩ := hon 7 12 (by kernel_rfl) rfl
      obtain ⟨_, g0⟩ := Array.getElem?_eq_some_iff.1 e0
      obtain ⟨_, g12⟩ := Array.getElem?_eq_some_iff.1 e12
      refine ⟨_, rfl, fun K hK => ?_⟩
      refine value_ (w1 := w) (v := .int .i64 7) (wanted_on rfl rfl rfl e12) rfl ?_ (hK.out _ _ (Below.refl _ _) (rfl))
      · go_simp
        (try simp only [i64_w, g0, g12])
        (try go_simp)
        try rfl
    refine Reg.rs_cons ?_ ?_
    · intro a w hb hs hel hon
      obtain ⟨_, e15, rfl⟩ := hon 10 15 (by kernel_rfl) rfl
      obtain ⟨_, e12, rfl⟩ := hon 7 12 (by kernel_rfl) rfl
      obtain ⟨_, g15⟩ := Array.getElem?_eq_some_iff.1 e15
      obtain ⟨_, g12⟩ := Array.getElem?_eq_some_iff.1 e12
      refine ⟨_, rfl, fun K hK => ?_⟩
      refine value_ (w1 := w) (v := .bool true) (wanted_on rfl rfl rfl e12) rfl ?_ (hK.out _ _ (Below.refl _ _) (rfl))
      · go_simp
        (try simp only [i64_w, g15, g12])
        (try go_simp)
        try rfl
    refine Reg.rs_cons ?_ ?_
    · intro a w hb hs hel hon
      obtain ⟨_, e16, rfl⟩ := hon 11 16 (by kernel_rfl) rfl
      obtain ⟨_, e12, rfl⟩ := hon 7 12 (by kernel_rfl) rfl
      obtain ⟨_, g16⟩ := Array.getElem?_eq_some_iff.1 e16
      obtain ⟨_, g12⟩ := Array.getElem?_eq_some_iff.1 e12
      refine ⟨_, rfl, fun K hK => ?_⟩
      refine value_ (w1 := w) (v := .bool true) (wanted_on rfl rfl rfl e12) rfl ?_ (hK.out _ _ (Below.refl _ _) (rfl))
      · go_simp
        (try simp only [i64_w, g16, g12])
        (try go_simp)
        try rfl
    refine Reg.rs_cons ?_ ?_
    · intro a w hb hs hel hon
      obtain ⟨_, e17, rfl⟩ := hon 12 17 (by kernel_rfl) rfl
      refine ⟨_, rfl, fun K hK => ?_⟩
      exact off_ (wanted_off rfl rfl rfl e17) (hK.out _ _ (Below.refl _ _) rfl)
    refine Reg.rs_cons ?_ ?_
    · intro a w hb hs hel hon
      obtain ⟨_, e17, rfl⟩ := hon 12 17 (by kernel_rfl) rfl
      refine ⟨_, rfl, fun K hK => ?_⟩
      exact off_ (wanted_off rfl rfl rfl e17) (hK.out _ _ (Below.refl _ _) rfl)
    refine Reg.rs_cons ?_ ?_
    · intro a w hb hs hel hon
      obtain ⟨_, e17, rfl⟩ := hon 12 17 (by kernel_rfl) rfl
      obtain ⟨_, e19, rfl⟩ := hon 14 19 (by kernel_rfl) rfl
      obtain ⟨_, e12, rfl⟩ := hon 7 12 (by kernel_rfl) rfl
      obtain ⟨_, g17⟩ := Array.getElem?_eq_some_iff.1 e17
      obtain ⟨_, g19⟩ := Array.getElem?_eq_some_iff.1 e19
      obtain ⟨_, g12⟩ := Array.getElem?_eq_some_iff.1 e12
      refine ⟨_, rfl, fun K hK => ?_⟩
      refine value_ (w1 := w) (v := .bool true) (wanted_on rfl rfl rfl e12) rfl ?_ (hK.out _ _ (Below.refl _ _) (rfl))
      · go_simp
        (try simp only [i64_w, g17, g19, g12])
        (try go_simp)
        try rfl
    refine Reg.rs_cons ?_ ?_
    · intro a w hb hs hel hon
      obtain ⟨_, e14, rfl⟩ := hon 9 14 (by kernel_rfl) rfl
      obtain ⟨_, e20, rfl⟩ := hon 15 20 (by kernel_rfl) rfl
      obtain ⟨_, e12, rfl⟩ := hon 7 12 (by kernel_rfl) rfl
      obtain ⟨_, g14⟩ := Array.getElem?_eq_some_iff.1 e14
      obtain ⟨_, g20⟩ := Array.getElem?_eq_some_iff.1 e20
      obtain ⟨_, g12⟩ := Array.getElem?_eq_some_iff.1 e12
      refine ⟨_, rfl, fun K hK => ?_⟩
      refine value_ (w1 := w) (v := .bool true) (wanted_on rfl rfl rfl e12) rfl ?_ (hK.out _ _ (Below.refl _ _) (rfl))
      · go_simp
        (try simp only [i64_w, g14, g20, g12])
        (try go_simp)
        try rfl
    refine Reg.rs_cons ?_ ?_
    · intro a w hb hs hel hon
      obtain ⟨_, e12, rfl⟩ := hon 7 12 (by kernel_rfl) rfl
      obtain ⟨_, e21, rfl⟩ := hon 16 21 (by kernel_rfl) rfl
      obtain ⟨_, g12⟩ := Array.getElem?_eq_some_iff.1 e12
      obtain ⟨_, g21⟩ := Array.getElem?_eq_some_iff.1 e21
      refine ⟨_, rfl, fun K hK => ?_⟩
      refine value_ (w1 := w) (v := .bool true) (by rfl) rfl ?_ (hK.out _ _ (Below.refl _ _) (rfl))
      · go_simp
        (try simp only [i64_w, g12, g21])
        (try go_simp)
        try rfl
    refine Reg.rs_cons ?_ ?_
    · intro a w hb hs hel hon
      obtain ⟨_, e22, rfl⟩ := hon 17 22 (by kernel_rfl) rfl
      obtain ⟨_, g22⟩ := Array.getElem?_eq_some_iff.1 e22
      refine ⟨_, rfl, fun K hK => ?_⟩
      refine value_ (w1 := w) (v := .bool true) (by rfl) rfl ?_ (hK.out _ _ (Below.refl _ _) (rfl))
      · go_simp
        (try simp only [i64_w, g22])
        (try go_simp)
        try rfl
    refine Reg.rs_cons ?_ ?_
    · intro a w hb hs hel hon
      obtain ⟨_, e23, rfl⟩ := hon 18 23 (by kernel_rfl) rfl
      refine ⟨_, rfl, fun K hK => ?_⟩
      refine goes_ Try.func12 (by kernel_rfl) rfl #[] (wanted_on rfl rfl rfl e23) rfl rfl (by first | (simp only [List.map_toArray, List.map_cons, List.map_nil, Act.eval, Array.getD_eq_getD_getElem?, Option.getD_some, e23]; done) | (simp only [List.map_toArray, List.map_cons, List.map_nil, Act.eval, Array.getD_eq_getD_getElem?, Option.getD_some, e23]; rfl) | rfl) ?_
      refine (awake_calls w).mono ?_
      rintro e w2 ⟨rfl, hb2⟩
      exact ⟨_, rfl, hK.out _ _ hb2 rfl⟩
    refine Reg.rs_cons ?_ ?_
    · intro a w hb hs hel hon
      obtain ⟨_, e23, rfl⟩ := hon 18 23 (by kernel_rfl) rfl
      obtain ⟨_, e24, rfl⟩ := hon 19 24 (by kernel_rfl) rfl
      obtain ⟨_, g23⟩ := Array.getElem?_eq_some_iff.1 e23
      obtain ⟨_, g24⟩ := Array.getElem?_eq_some_iff.1 e24
      refine ⟨_, rfl, fun K hK => ?_⟩
      refine value_ (w1 := w) (v := .bool true) (by rfl) rfl ?_ (hK.out _ _ (Below.refl _ _) (rfl))
      · go_simp
        (try simp only [i64_w, g23, g24])
        (try go_simp)
        try rfl
    refine Reg.rs_cons ?_ ?_
    · intro a w hb hs hel hon
      obtain ⟨_, e25, rfl⟩ := hon 20 25 (by kernel_rfl) rfl
      obtain ⟨_, g25⟩ := Array.getElem?_eq_some_iff.1 e25
      refine ⟨_, rfl, fun K hK => ?_⟩
      refine value_ (w1 := w) (v := .bool true) (by rfl) rfl ?_ (hK.out _ _ (Below.refl _ _) (rfl))
      · go_simp
        (try simp only [i64_w, g25])
        (try go_simp)
        try rfl
    exact Reg.rs_nil
  · intro a w hI
    rename_i K_ hK_
    refine hK_ a w ?_
    go_wp2
    obtain ⟨v4, e4, rfl⟩ := hI.vals 21 4 rfl rfl
    exact Reg.ret_slot (R := fun e w' => e = .returned (.bool true) ∧ Below _ _ w') (by kernel_rfl) hI.defers e4 ⟨rfl, hb0.trans (hI.below.mono hb0.size)⟩
set_option maxHeartbeats 4000000 in
theorem TrigSteps_8 (x0 x1 x2 x3 x4 x5 x6 x7 x8 x9 : Int) (w : World) :
    Calls Try.prog 3 #[.int .i64 8, .agg (instL x0 x1 x2 x3 x4 x5 x6 x7 x8 x9).toArray] w fun e w' => e = .returned (.bool true) ∧ Below w.heap.size w w' := by
  have hi : (Try.prog.info? 24).map (·.size) = some 10 := by kernel_rfl
  have HI : Aside0 (∀ w : World, Calls Try.prog 11 #[.int .i64 8] w fun e w' => e = .returned (.bool true) ∧ w' = w) := ⟨fun w => by
    have h := Is_calls 8 w
    first | exact h | (rw [show decide (8 = 7 ∨ 8 = 8) = true from by simp] at h; exact h)⟩
  go_enter Try.func3, Try.ntmps3
  go_wp2_with fail
  have B0 := Aside0.mk (Blk.Is.new w 24 (instL x0 x1 x2 x3 x4 x5 x6 x7 x8 x9))
  have hb0 : Below w.heap.size w (w.alloc (.cells (instL x0 x1 x2 x3 x4 x5 x6 x7 x8 x9).toArray 24)) := (Below.refl _ _).alloc (Nat.le_refl _) _
  generalize w.alloc (.cells (instL x0 x1 x2 x3 x4 x5 x6 x7 x8 x9).toArray 24) = w1 at *
  obtain ⟨g, hg⟩ : ∃ g, g = w.heap.size := ⟨_, rfl⟩
  rw [← hg] at B0 ⊢
  refine Reg.region_any [some 5, some 6, some 7, some 8, some 9, some 10, some 11, some 12, some 13, some 14, some 15, some 16, some 17, some 18, some 19, some 20, some 21, some 22, some 23, some 24, some 25, some 4] [0, 0, 3, 0, 0, 31, 63, 127, 255, 511, 255, 1279, 4095, 8191, 16383, 32767, 65535, 131071, 262143, 524287, 1048575, 2097151] (true, [([], []), ([], []), ([0, 1], [0, 1]), ([], []), ([], []), ([3, 4, 2], [3, 4]), ([2, 5], [2, 5]), ([6, 5], [6]), ([7], [7]), ([8, 7, 7], [7, 8]), ([7], [7]), ([10, 7], [7, 10]), ([11, 9, 7], [7, 11]), ([12], [12]), ([13, 12], [12, 13]), ([12, 14, 7], [7, 12, 14]), ([9, 15, 7], [7, 9, 15]), ([7, 16], [7, 16]), ([17, 12], [17]), ([18, 18], [18]), ([18, 19], [18, 19]), ([20, 19, 0, 1, 2, 3, 4, 5, 6, 7, 8, 9, 10, 11, 12, 13, 14, 15, 16, 17, 18, 19, 20], [20])]) (fun i => ([(fun _ v_ => v_ = (.int .i64 8)), (fun _ v_ => v_ = (.agg (instL x0 x1 x2 x3 x4 x5 x6 x7 x8 x9).toArray)), (fun _ v_ => v_ = (.agg (stepped 8 x0 x1 x2 x3 x4 x5 x6 x7 x8 x9).toArray)), (fun _ v_ => v_ = (.int .i64 8)), (fun _ v_ => v_ = (.agg (instL x0 x1 x2 x3 x4 x5 x6 x7 x8 x9).toArray)), (fun _ v_ => v_ = (.agg (stepped 8 x0 x1 x2 x3 x4 x5 x6 x7 x8 x9).toArray)), (fun _ v_ => v_ = (.bool true)), (fun _ v_ => v_ = (.bool true)), (fun _ v_ => v_ = (.int .i64 8)), (fun _ v_ => v_ = (.bool true)), (fun _ v_ => v_ = (.int .i64 8)), (fun _ v_ => v_ = (.bool false)), (fun _ v_ => v_ = (.bool false)), (fun _ v_ => v_ = (.int .i64 8)), (fun _ v_ => v_ = (.bool true)), (fun _ v_ => v_ = (.bool true)), (fun _ v_ => v_ = (.bool true)), (fun _ v_ => v_ = (.bool true)), (fun _ v_ => v_ = (.bool true)), (fun _ v_ => v_ = (.bool true)), (fun _ v_ => v_ = (.bool true)), (fun _ v_ => v_ = (.bool true))] : List (World → Value → Prop)).getD i (fun _ _ => False))
      (by kernel_rfl) (by kernel_rfl) (by kernel_rfl) (by kernel_rfl) (by kernel_rfl) (by decide) (by rfl) (Reg.mono_getD ?_) [0, 1, 2, 3, 4, 5, 6, 7, 8, 9, 10, 11, 12, 13, 14, 15, 16, 17, 18, 19, 20, 21] (by kernel_rfl) ?_ ?_
  · exact Reg.monoS_cons (Reg.monoS_eq _) (Reg.monoS_cons (Reg.monoS_eq _) (Reg.monoS_cons (Reg.monoS_eq _) (Reg.monoS_cons (Reg.monoS_eq _) (Reg.monoS_cons (Reg.monoS_eq _) (Reg.monoS_cons (Reg.monoS_eq _) (Reg.monoS_cons (Reg.monoS_eq _) (Reg.monoS_cons (Reg.monoS_eq _) (Reg.monoS_cons (Reg.monoS_eq _) (Reg.monoS_cons (Reg.monoS_eq _) (Reg.monoS_cons (Reg.monoS_eq _) (Reg.monoS_cons (Reg.monoS_eq _) (Reg.monoS_cons (Reg.monoS_eq _) (Reg.monoS_cons (Reg.monoS_eq _) (Reg.monoS_cons (Reg.monoS_eq _) (Reg.monoS_cons (Reg.monoS_eq _) (Reg.monoS_cons (Reg.monoS_eq _) (Reg.monoS_cons (Reg.monoS_eq _) (Reg.monoS_cons (Reg.monoS_eq _) (Reg.monoS_cons (Reg.monoS_eq _) (Reg.monoS_cons (Reg.monoS_eq _) (Reg.monoS_cons (Reg.monoS_eq _) Reg.monoS_nil)))))))))))))))))))))
  · skip
    refine Reg.rs_cons ?_ ?_
    · intro a w hb hs hel hon
      have e0 : a.tmps[0]? = some (.int .i64 8) := (hel 0 (by decide)).trans rfl
      obtain ⟨_, g0⟩ := Array.getElem?_eq_some_iff.1 e0
      refine ⟨_, rfl, fun K hK => ?_⟩
      refine value_ (w1 := w) (v := .int .i64 8) (by rfl) rfl ?_ (hK.out _ _ (Below.refl _ _) (rfl))
      · go_simp
        (try simp only [i64_w, g0])
        (try go_simp)
        try rfl
    refine Reg.rs_cons ?_ ?_
    · intro a w hb hs hel hon
      have e3 : a.tmps[3]? = some (.pointer (some ⟨g, 0, none⟩)) := (hel 3 (by decide)).trans rfl
      obtain ⟨_, g3⟩ := Array.getElem?_eq_some_iff.1 e3
      refine ⟨_, rfl, fun K hK => ?_⟩
      have hl := run_loadVar_row (P := Try.prog) w g 24 24 (instL x0 x1 x2 x3 x4 x5 x6 x7 x8 x9).toArray (0, 0) _ (B0.out.below hb) Try.underlying24 rfl (by rw [hi]; rfl)
      refine value_ (w1 := w) (v := .agg (instL x0 x1 x2 x3 x4 x5 x6 x7 x8 x9).toArray) (by rfl) rfl ?_ (hK.out _ _ (Below.refl _ _) (rfl))
      · show (execOp a.eval _).run _ w = _
        simp only [execOp, Act.eval, Array.getD_eq_getD_getElem?, e3, Option.getD_some, Instr.loadAt, Instr.sureAddr, Sem.run_bind, Sem.run_pure, Result.andThen_ok, hl, List.getElem_toArray, List.getElem_cons_succ, List.getElem_cons_zero]
    refine Reg.rs_cons ?_ ?_
    · intro a w hb hs hel hon
      obtain ⟨_, e5, rfl⟩ := hon 0 5 (by kernel_rfl) rfl
      obtain ⟨_, e6, rfl⟩ := hon 1 6 (by kernel_rfl) rfl
      refine ⟨_, rfl, fun K hK => ?_⟩
      refine goes_ Try.func9 (by kernel_rfl) rfl #[.int .i64 8, .agg (instL x0 x1 x2 x3 x4 x5 x6 x7 x8 x9).toArray] (by rfl) rfl rfl (by first | (simp only [List.map_toArray, List.map_cons, List.map_nil, Act.eval, Array.getD_eq_getD_getElem?, Option.getD_some, e5, e6]; done) | (simp only [List.map_toArray, List.map_cons, List.map_nil, Act.eval, Array.getD_eq_getD_getElem?, Option.getD_some, e5, e6]; rfl) | rfl) ?_
      refine (Step_calls 8 x0 x1 x2 x3 x4 x5 x6 x7 x8 x9 w).mono ?_
      rintro e w2 ⟨rfl, hb2⟩
      exact ⟨_, rfl, hK.out _ _ hb2 rfl⟩
    refine Reg.rs_cons ?_ ?_
    · intro a w hb hs hel hon
      have e0 : a.tmps[0]? = some (.int .i64 8) := (hel 0 (by decide)).trans rfl
      obtain ⟨_, g0⟩ := Array.getElem?_eq_some_iff.1 e0
      refine ⟨_, rfl, fun K hK => ?_⟩
      refine value_ (w1 := w) (v := .int .i64 8) (by rfl) rfl ?_ (hK.out _ _ (Below.refl _ _) (rfl))
      · go_simp
        (try simp only [i64_w, g0])
        (try go_simp)
        try rfl
    refine Reg.rs_cons ?_ ?_
    · intro a w hb hs hel hon
      have e3 : a.tmps[3]? = some (.pointer (some ⟨g, 0, none⟩)) := (hel 3 (by decide)).trans rfl
      obtain ⟨_, g3⟩ := Array.getElem?_eq_some_iff.1 e3
      refine ⟨_, rfl, fun K hK => ?_⟩
      have hl := run_loadVar_row (P := Try.prog) w g 24 24 (instL x0 x1 x2 x3 x4 x5 x6 x7 x8 x9).toArray (0, 0) _ (B0.out.below hb) Try.underlying24 rfl (by rw [hi]; rfl)
      refine value_ (w1 := w) (v := .agg (instL x0 x1 x2 x3 x4 x5 x6 x7 x8 x9).toArray) (by rfl) rfl ?_ (hK.out _ _ (Below.refl _ _) (rfl))
      · show (execOp a.eval _).run _ w = _
        simp only [execOp, Act.eval, Array.getD_eq_getD_getElem?, e3, Option.getD_some, Instr.loadAt, Instr.sureAddr, Sem.run_bind, Sem.run_pure, Result.andThen_ok, hl, List.getElem_toArray, List.getElem_cons_succ, List.getElem_cons_zero]
    refine Reg.rs_cons ?_ ?_
    · intro a w hb hs hel hon
      obtain ⟨_, e8, rfl⟩ := hon 3 8 (by kernel_rfl) rfl
      obtain ⟨_, e9, rfl⟩ := hon 4 9 (by kernel_rfl) rfl
      refine ⟨_, rfl, fun K hK => ?_⟩
      refine goes_ Try.func10 (by kernel_rfl) rfl #[.int .i64 8, .agg (instL x0 x1 x2 x3 x4 x5 x6 x7 x8 x9).toArray] (by rfl) rfl rfl (by first | (simp only [List.map_toArray, List.map_cons, List.map_nil, Act.eval, Array.getD_eq_getD_getElem?, Option.getD_some, e8, e9]; done) | (simp only [List.map_toArray, List.map_cons, List.map_nil, Act.eval, Array.getD_eq_getD_getElem?, Option.getD_some, e8, e9]; rfl) | rfl) ?_
      refine (RefStep_calls 8 x0 x1 x2 x3 x4 x5 x6 x7 x8 x9 w).mono ?_
      rintro e w2 ⟨rfl, hb2⟩
      exact ⟨_, rfl, hK.out _ _ hb2 rfl⟩
    refine Reg.rs_cons ?_ ?_
    · intro a w hb hs hel hon
      obtain ⟨_, e7, rfl⟩ := hon 2 7 (by kernel_rfl) rfl
      obtain ⟨_, e10, rfl⟩ := hon 5 10 (by kernel_rfl) rfl
      obtain ⟨_, g7⟩ := Array.getElem?_eq_some_iff.1 e7
      obtain ⟨_, g10⟩ := Array.getElem?_eq_some_iff.1 e10
      refine ⟨_, rfl, fun K hK => ?_⟩
      refine value_ (w1 := w) (v := .bool true) (by rfl) rfl ?_ (hK.out _ _ (Below.refl _ _) (rfl))
      · go_simp
        obtain ⟨y1, y2, e⟩ := stepped_ints 8 x0 x1 x2 x3 x4 x5 x6 x7 x8 x9
        rw [e, eq_ten]
        rfl
    refine Reg.rs_cons ?_ ?_
    · intro a w hb hs hel hon
      obtain ⟨_, e11, rfl⟩ := hon 6 11 (by kernel_rfl) rfl
      obtain ⟨_, g11⟩ := Array.getElem?_eq_some_iff.1 e11
      refine ⟨_, rfl, fun K hK => ?_⟩
      refine value_ (w1 := w) (v := .bool true) (by rfl) rfl ?_ (hK.out _ _ (Below.refl _ _) (rfl))
      · go_simp
        (try simp only [i64_w, g11])
        (try go_simp)
        try rfl
    refine Reg.rs_cons ?_ ?_
    · intro a w hb hs hel hon
      have e0 : a.tmps[0]? = some (.int .i64 8) := (hel 0 (by decide)).trans rfl
      obtain ⟨_, e12, rfl⟩ := hon 7 12 (by kernel_rfl) rfl
      obtain ⟨_, g0⟩ := Array.getElem?_eq_some_iff.1 e0
      obtain ⟨_, g12⟩ := Array.getElem?_eq_some_iff.1 e12
      refine ⟨_, rfl, fun K hK => ?_⟩
      refine value_ (w1 := w) (v := .int .i64 8) (wanted_on rfl rfl rfl e12) rfl ?_ (hK.out _ _ (Below.refl _ _) (rfl))
      · go_simp
        (try simp only [i64_w, g0, g12])
        (try go_simp)
        try rfl
    refine Reg.rs_cons ?_ ?_
    · intro a w hb hs hel hon
      obtain ⟨_, e13, rfl⟩ := hon 8 13 (by kernel_rfl) rfl
      obtain ⟨_, e12, rfl⟩ := hon 7 12 (by kernel_rfl) rfl
      refine ⟨_, rfl, fun K hK => ?_⟩
      refine goes_ Try.func11 (by kernel_rfl) rfl #[.int .i64 8] (wanted_on rfl rfl rfl e12) rfl rfl (by first | (simp only [List.map_toArray, List.map_cons, List.map_nil, Act.eval, Array.getD_eq_getD_getElem?, Option.getD_some, e13, e12]; done) | (simp only [List.map_toArray, List.map_cons, List.map_nil, Act.eval, Array.getD_eq_getD_getElem?, Option.getD_some, e13, e12]; rfl) | rfl) ?_
      refine (HI.out w).mono ?_
      rintro e w2 ⟨rfl, rfl⟩
      exact ⟨_, rfl, hK.out _ _ (Below.refl _ _) rfl⟩
    refine Reg.rs_cons ?_ ?_
    · intro a w hb hs hel hon
      have e0 : a.tmps[0]? = some (.int .i64 8) := (hel 0 (by decide)).trans rfl
      obtain ⟨_, e12, rfl⟩ := hon 7 12 (by kernel_rfl) rfl
      obtain ⟨_, g0⟩ := Array.getElem?_eq_some_iff.1 e0
      obtain ⟨_, g12⟩ := Array.getElem?_eq_some_iff.1 e12
      refine ⟨_, rfl, fun K hK => ?_⟩
      refine value_ (w1 := w) (v := .int .i64 8) (wanted_on rfl rfl rfl e12) rfl ?_ (hK.out _ _ (Below.refl _ _) (rfl))
      · go_simp
        (try simp only [i64_w, g0, g12])
        (try go_simp)
        try rfl
    refine Reg.rs_cons ?_ ?_
    · intro a w hb hs hel hon
      obtain ⟨_, e15, rfl⟩ := hon 10 15 (by kernel_rfl) rfl
      obtain ⟨_, e12, rfl⟩ := hon 7 12 (by kernel_rfl) rfl
      obtain ⟨_, g15⟩ := Array.getElem?_eq_some_iff.1 e15
      obtain ⟨_, g12⟩ := Array.getElem?_eq_some_iff.1 e12
      refine ⟨_, rfl, fun K hK => ?_⟩
      refine value_ (w1 := w) (v := .bool false) (wanted_on rfl rfl rfl e12) rfl ?_ (hK.out _ _ (Below.refl _ _) (rfl))
      · go_simp
        (try simp only [i64_w, g15, g12])
        (try go_simp)
        try rfl
    refine Reg.rs_cons ?_ ?_
    · intro a w hb hs hel hon
      obtain ⟨_, e16, rfl⟩ := hon 11 16 (by kernel_rfl) rfl
      obtain ⟨_, e12, rfl⟩ := hon 7 12 (by kernel_rfl) rfl
      obtain ⟨_, g16⟩ := Array.getElem?_eq_some_iff.1 e16
      obtain ⟨_, g12⟩ := Array.getElem?_eq_some_iff.1 e12
      refine ⟨_, rfl, fun K hK => ?_⟩
      refine value_ (w1 := w) (v := .bool false) (wanted_on rfl rfl rfl e12) rfl ?_ (hK.out _ _ (Below.refl _ _) (rfl))
      · go_simp
        (try simp only [i64_w, g16, g12])
        (try go_simp)
        try rfl
    refine Reg.rs_cons ?_ ?_
    · intro a w hb hs hel hon
      have e0 : a.tmps[0]? = some (.int .i64 8) := (hel 0 (by decide)).trans rfl
      obtain ⟨_, e17, rfl⟩ := hon 12 17 (by kernel_rfl) rfl
      obtain ⟨_, g0⟩ := Array.getElem?_eq_some_iff.1 e0
      obtain ⟨_, g17⟩ := Array.getElem?_eq_some_iff.1 e17
      refine ⟨_, rfl, fun K hK => ?_⟩
      refine value_ (w1 := w) (v := .int .i64 8) (wanted_on rfl rfl rfl e17) rfl ?_ (hK.out _ _ (Below.refl _ _) (rfl))
      · go_simp
        (try simp only [i64_w, g0, g17])
        (try go_simp)
        try rfl
    refine Reg.rs_cons ?_ ?_
    · intro a w hb hs hel hon
      obtain ⟨_, e18, rfl⟩ := hon 13 18 (by kernel_rfl) rfl
      obtain ⟨_, e17, rfl⟩ := hon 12 17 (by kernel_rfl) rfl
      obtain ⟨_, g18⟩ := Array.getElem?_eq_some_iff.1 e18
      obtain ⟨_, g17⟩ := Array.getElem?_eq_some_iff.1 e17
      refine ⟨_, rfl, fun K hK => ?_⟩
      refine value_ (w1 := w) (v := .bool true) (wanted_on rfl rfl rfl e17) rfl ?_ (hK.out _ _ (Below.refl _ _) (rfl))
      · go_simp
        (try simp only [i64_w, g18, g17])
        (try go_simp)
        try rfl
    refine Reg.rs_cons ?_ ?_
    · intro a w hb hs hel hon
      obtain ⟨_, e17, rfl⟩ := hon 12 17 (by kernel_rfl) rfl
      obtain ⟨_, e19, rfl⟩ := hon 14 19 (by kernel_rfl) rfl
      obtain ⟨_, e12, rfl⟩ := hon 7 12 (by kernel_rfl) rfl
      obtain ⟨_, g17⟩ := Array.getElem?_eq_some_iff.1 e17
      obtain ⟨_, g19⟩ := Array.getElem?_eq_some_iff.1 e19
      obtain ⟨_, g12⟩ := Array.getElem?_eq_some_iff.1 e12
      refine ⟨_, rfl, fun K hK => ?_⟩
      refine value_ (w1 := w) (v := .bool true) (wanted_on rfl rfl rfl e12) rfl ?_ (hK.out _ _ (Below.refl _ _) (rfl))
      · go_simp
        (try simp only [i64_w, g17, g19, g12])
        (try go_simp)
        try rfl
    refine Reg.rs_cons ?_ ?_
    · intro a w hb hs hel hon
      obtain ⟨_, e14, rfl⟩ := hon 9 14 (by kernel_rfl) rfl
      obtain ⟨_, e20, rfl⟩ := hon 15 20 (by kernel_rfl) rfl
      obtain ⟨_, e12, rfl⟩ := hon 7 12 (by kernel_rfl) rfl
      obtain ⟨_, g14⟩ := Array.getElem?_eq_some_iff.1 e14
      obtain ⟨_, g20⟩ := Array.getElem?_eq_some_iff.1 e20
      obtain ⟨_, g12⟩ := Array.getElem?_eq_some_iff.1 e12
      refine ⟨_, rfl, fun K hK => ?_⟩
      refine value_ (w1 := w) (v := .bool true) (wanted_on rfl rfl rfl e12) rfl ?_ (hK.out _ _ (Below.refl _ _) (rfl))
      · go_simp
        (try simp only [i64_w, g14, g20, g12])
        (try go_simp)
        try rfl
    refine Reg.rs_cons ?_ ?_
    · intro a w hb hs hel hon
      obtain ⟨_, e12, rfl⟩ := hon 7 12 (by kernel_rfl) rfl
      obtain ⟨_, e21, rfl⟩ := hon 16 21 (by kernel_rfl) rfl
      obtain ⟨_, g12⟩ := Array.getElem?_eq_some_iff.1 e12
      obtain ⟨_, g21⟩ := Array.getElem?_eq_some_iff.1 e21
      refine ⟨_, rfl, fun K hK => ?_⟩
      refine value_ (w1 := w) (v := .bool true) (by rfl) rfl ?_ (hK.out _ _ (Below.refl _ _) (rfl))
      · go_simp
        (try simp only [i64_w, g12, g21])
        (try go_simp)
        try rfl
    refine Reg.rs_cons ?_ ?_
    · intro a w hb hs hel hon
      obtain ⟨_, e22, rfl⟩ := hon 17 22 (by kernel_rfl) rfl
      obtain ⟨_, g22⟩ := Array.getElem?_eq_some_iff.1 e22
      refine ⟨_, rfl, fun K hK => ?_⟩
      refine value_ (w1 := w) (v := .bool true) (by rfl) rfl ?_ (hK.out _ _ (Below.refl _ _) (rfl))
      · go_simp
        (try simp only [i64_w, g22])
        (try go_simp)
        try rfl
    refine Reg.rs_cons ?_ ?_
    · intro a w hb hs hel hon
      obtain ⟨_, e23, rfl⟩ := hon 18 23 (by kernel_rfl) rfl
      refine ⟨_, rfl, fun K hK => ?_⟩
      refine goes_ Try.func12 (by kernel_rfl) rfl #[] (wanted_on rfl rfl rfl e23) rfl rfl (by first | (simp only [List.map_toArray, List.map_cons, List.map_nil, Act.eval, Array.getD_eq_getD_getElem?, Option.getD_some, e23]; done) | (simp only [List.map_toArray, List.map_cons, List.map_nil, Act.eval, Array.getD_eq_getD_getElem?, Option.getD_some, e23]; rfl) | rfl) ?_
      refine (awake_calls w).mono ?_
      rintro e w2 ⟨rfl, hb2⟩
      exact ⟨_, rfl, hK.out _ _ hb2 rfl⟩
    refine Reg.rs_cons ?_ ?_
    · intro a w hb hs hel hon
      obtain ⟨_, e23, rfl⟩ := hon 18 23 (by kernel_rfl) rfl
      obtain ⟨_, e24, rfl⟩ := hon 19 24 (by kernel_rfl) rfl
      obtain ⟨_, g23⟩ := Array.getElem?_eq_some_iff.1 e23
      obtain ⟨_, g24⟩ := Array.getElem?_eq_some_iff.1 e24
      refine ⟨_, rfl, fun K hK => ?_⟩
      refine value_ (w1 := w) (v := .bool true) (by rfl) rfl ?_ (hK.out _ _ (Below.refl _ _) (rfl))
      · go_simp
        (try simp only [i64_w, g23, g24])
        (try go_simp)
        try rfl
    refine Reg.rs_cons ?_ ?_
    · intro a w hb hs hel hon
      obtain ⟨_, e25, rfl⟩ := hon 20 25 (by kernel_rfl) rfl
      obtain ⟨_, g25⟩ := Array.getElem?_eq_some_iff.1 e25
      refine ⟨_, rfl, fun K hK => ?_⟩
      refine value_ (w1 := w) (v := .bool true) (by rfl) rfl ?_ (hK.out _ _ (Below.refl _ _) (rfl))
      · go_simp
        (try simp only [i64_w, g25])
        (try go_simp)
        try rfl
    exact Reg.rs_nil
  · intro a w hI
    rename_i K_ hK_
    refine hK_ a w ?_
    go_wp2
    obtain ⟨v4, e4, rfl⟩ := hI.vals 21 4 rfl rfl
    exact Reg.ret_slot (R := fun e w' => e = .returned (.bool true) ∧ Below _ _ w') (by kernel_rfl) hI.defers e4 ⟨rfl, hb0.trans (hI.below.mono hb0.size)⟩
set_option maxHeartbeats 4000000 in
theorem TrigSteps_other (kind x0 x1 x2 x3 x4 x5 x6 x7 x8 x9 : Int) (w : World) (h7 : kind ≠ 7) (h8 : kind ≠ 8) :
    Calls Try.prog 3 #[.int .i64 kind, .agg (instL x0 x1 x2 x3 x4 x5 x6 x7 x8 x9).toArray] w fun e w' => e = .returned (.bool true) ∧ Below w.heap.size w w' := by
  have hi : (Try.prog.info? 24).map (·.size) = some 10 := by kernel_rfl
  have E7 : (kind == 7) = false := beq_eq_false_iff_ne.2 h7
  have E8 : (kind == 8) = false := beq_eq_false_iff_ne.2 h8
  have HI : Aside0 (∀ w : World, Calls Try.prog 11 #[.int .i64 kind] w fun e w' => e = .returned (.bool false) ∧ w' = w) := ⟨fun w => by
    have h := Is_calls kind w
    first | exact h | (rw [show decide (kind = 7 ∨ kind = 8) = false from by simp; omega] at h; exact h)⟩
  go_enter Try.func3, Try.ntmps3
  go_wp2_with fail
  have B0 := Aside0.mk (Blk.Is.new w 24 (instL x0 x1 x2 x3 x4 x5 x6 x7 x8 x9))
  have hb0 : Below w.heap.size w (w.alloc (.cells (instL x0 x1 x2 x3 x4 x5 x6 x7 x8 x9).toArray 24)) := (Below.refl _ _).alloc (Nat.le_refl _) _
  generalize w.alloc (.cells (instL x0 x1 x2 x3 x4 x5 x6 x7 x8 x9).toArray 24) = w1 at *
  obtain ⟨g, hg⟩ : ∃ g, g = w.heap.size := ⟨_, rfl⟩
  rw [← hg] at B0 ⊢
  refine Reg.region_any [some 5, some 6, some 7, some 8, some 9, some 10, some 11, some 12, some 13, some 14, some 15, some 16, some 17, some 18, some 19, some 20, some 21, some 22, some 23, some 24, some 25, some 4] [0, 0, 3, 0, 0, 31, 63, 127, 255, 511, 255, 1279, 4095, 8191, 16383, 32767, 65535, 131071, 262143, 524287, 1048575, 2097151] (true, [([], []), ([], []), ([0, 1], [0, 1]), ([], []), ([], []), ([3, 4, 2], [3, 4]), ([2, 5], [2, 5]), ([6, 5], [6]), ([7], [7]), ([8, 7, 7], [7, 8]), ([7], [7]), ([10, 7], [7, 10]), ([11, 9, 7], [7, 11]), ([12], [12]), ([13, 12], [12, 13]), ([12, 14, 7], [7, 12, 14]), ([9, 15, 7], [7, 9, 15]), ([7, 16], [7, 16]), ([17, 12], [17]), ([18, 18], [18]), ([18, 19], [18, 19]), ([20, 19, 0, 1, 2, 3, 4, 5, 6, 7, 8, 9, 10, 11, 12, 13, 14, 15, 16, 17, 18, 19, 20], [20])]) (fun i => ([(fun _ v_ => v_ = (.int .i64 kind)), (fun _ v_ => v_ = (.agg (instL x0 x1 x2 x3 x4 x5 x6 x7 x8 x9).toArray)), (fun _ v_ => v_ = (.agg (stepped kind x0 x1 x2 x3 x4 x5 x6 x7 x8 x9).toArray)), (fun _ v_ => v_ = (.int .i64 kind)), (fun _ v_ => v_ = (.agg (instL x0 x1 x2 x3 x4 x5 x6 x7 x8 x9).toArray)), (fun _ v_ => v_ = (.agg (stepped kind x0 x1 x2 x3 x4 x5 x6 x7 x8 x9).toArray)), (fun _ v_ => v_ = (.bool true)), (fun _ v_ => v_ = (.bool true)), (fun _ v_ => v_ = (.int .i64 kind)), (fun _ v_ => v_ = (.bool false)), (fun _ v_ => v_ = (.int .i64 kind)), (fun _ v_ => v_ = (.bool false)), (fun _ v_ => v_ = (.bool false)), (fun _ v_ => v_ = (.int .i64 kind)), (fun _ v_ => v_ = (.bool false)), (fun _ v_ => v_ = (.bool false)), (fun _ v_ => v_ = (.bool true)), (fun _ v_ => v_ = (.bool true)), (fun _ v_ => v_ = (.bool true)), (fun _ v_ => v_ = (.bool true)), (fun _ v_ => v_ = (.bool true)), (fun _ v_ => v_ = (.bool true))] : List (World → Value → Prop)).getD i (fun _ _ => False))
      (by kernel_rfl) (by kernel_rfl) (by kernel_rfl) (by kernel_rfl) (by kernel_rfl) (by decide) (by rfl) (Reg.mono_getD ?_) [0, 1, 2, 3, 4, 5, 6, 7, 8, 9, 10, 11, 12, 13, 14, 15, 16, 17, 18, 19, 20, 21] (by kernel_rfl) ?_ ?_
  · exact Reg.monoS_cons (Reg.monoS_eq _) (Reg.monoS_cons (Reg.monoS_eq _) (Reg.monoS_cons (Reg.monoS_eq _) (Reg.monoS_cons (Reg.monoS_eq _) (Reg.monoS_cons (Reg.monoS_eq _) (Reg.monoS_cons (Reg.monoS_eq _) (Reg.monoS_cons (Reg.monoS_eq _) (Reg.monoS_cons (Reg.monoS_eq _) (Reg.monoS_cons (Reg.monoS_eq _) (Reg.monoS_cons (Reg.monoS_eq _) (Reg.monoS_cons (Reg.monoS_eq _) (Reg.monoS_cons (Reg.monoS_eq _) (Reg.monoS_cons (Reg.monoS_eq _) (Reg.monoS_cons (Reg.monoS_eq _) (Reg.monoS_cons (Reg.monoS_eq _) (Reg.monoS_cons (Reg.monoS_eq _) (Reg.monoS_cons (Reg.monoS_eq _) (Reg.monoS_cons (Reg.monoS_eq _) (Reg.monoS_cons (Reg.monoS_eq _) (Reg.monoS_cons (Reg.monoS_eq _) (Reg.monoS_cons (Reg.monoS_eq _) (Reg.monoS_cons (Reg.monoS_eq _) Reg.monoS_nil)))))))))))))))))))))
  · skip
    refine Reg.rs_cons ?_ ?_
    · intro a w hb hs hel hon
      have e0 : a.tmps[0]? = some (.int .i64 kind) := (hel 0 (by decide)).trans rfl
      obtain ⟨_, g0⟩ := Array.getElem?_eq_some_iff.1 e0
      refine ⟨_, rfl, fun K hK => ?_⟩
      refine value_ (w1 := w) (v := .int .i64 kind) (by rfl) rfl ?_ (hK.out _ _ (Below.refl _ _) (rfl))
      · go_simp
        (try simp only [i64_w, g0])
        (try go_simp)
        try rfl
    refine Reg.rs_cons ?_ ?_
    · intro a w hb hs hel hon
      have e3 : a.tmps[3]? = some (.pointer (some ⟨g, 0, none⟩)) := (hel 3 (by decide)).trans rfl
      obtain ⟨_, g3⟩ := Array.getElem?_eq_some_iff.1 e3
      refine ⟨_, rfl, fun K hK => ?_⟩
      have hl := run_loadVar_row (P := Try.prog) w g 24 24 (instL x0 x1 x2 x3 x4 x5 x6 x7 x8 x9).toArray (0, 0) _ (B0.out.below hb) Try.underlying24 rfl (by rw [hi]; rfl)
      refine value_ (w1 := w) (v := .agg (instL x0 x1 x2 x3 x4 x5 x6 x7 x8 x9).toArray) (by rfl) rfl ?_ (hK.out _ _ (Below.refl _ _) (rfl))
      · show (execOp a.eval _).run _ w = _
        simp only [execOp, Act.eval, Array.getD_eq_getD_getElem?, e3, Option.getD_some, Instr.loadAt, Instr.sureAddr, Sem.run_bind, Sem.run_pure, Result.andThen_ok, hl, List.getElem_toArray, List.getElem_cons_succ, List.getElem_cons_zero]
    refine Reg.rs_cons ?_ ?_
    · intro a w hb hs hel hon
      obtain ⟨_, e5, rfl⟩ := hon 0 5 (by kernel_rfl) rfl
      obtain ⟨_, e6, rfl⟩ := hon 1 6 (by kernel_rfl) rfl
      refine ⟨_, rfl, fun K hK => ?_⟩
      refine goes_ Try.func9 (by kernel_rfl) rfl #[.int .i64 kind, .agg (instL x0 x1 x2 x3 x4 x5 x6 x7 x8 x9).toArray] (by rfl) rfl rfl (by first | (simp only [List.map_toArray, List.map_cons, List.map_nil, Act.eval, Array.getD_eq_getD_getElem?, Option.getD_some, e5, e6]; done) | (simp only [List.map_toArray, List.map_cons, List.map_nil, Act.eval, Array.getD_eq_getD_getElem?, Option.getD_some, e5, e6]; rfl) | rfl) ?_
      refine (Step_calls kind x0 x1 x2 x3 x4 x5 x6 x7 x8 x9 w).mono ?_
      rintro e w2 ⟨rfl, hb2⟩
      exact ⟨_, rfl, hK.out _ _ hb2 rfl⟩
    refine Reg.rs_cons ?_ ?_
    · intro a w hb hs hel hon
      have e0 : a.tmps[0]? = some (.int .i64 kind) := (hel 0 (by decide)).trans rfl
      obtain ⟨_, g0⟩ := Array.getElem?_eq_some_iff.1 e0
      refine ⟨_, rfl, fun K hK => ?_⟩
      refine value_ (w1 := w) (v := .int .i64 kind) (by rfl) rfl ?_ (hK.out _ _ (Below.refl _ _) (rfl))
      · go_simp
        (try simp only [i64_w, g0])
        (try go_simp)
        try rfl
    refine Reg.rs_cons ?_ ?_
    · intro a w hb hs hel hon
      have e3 : a.tmps[3]? = some (.pointer (some ⟨g, 0, none⟩)) := (hel 3 (by decide)).trans rfl
      obtain ⟨_, g3⟩ := Array.getElem?_eq_some_iff.1 e3
      refine ⟨_, rfl, fun K hK => ?_⟩
      have hl := run_loadVar_row (P := Try.prog) w g 24 24 (instL x0 x1 x2 x3 x4 x5 x6 x7 x8 x9).toArray (0, 0) _ (B0.out.below hb) Try.underlying24 rfl (by rw [hi]; rfl)
      refine value_ (w1 := w) (v := .agg (instL x0 x1 x2 x3 x4 x5 x6 x7 x8 x9).toArray) (by rfl) rfl ?_ (hK.out _ _ (Below.refl _ _) (rfl))
      · show (execOp a.eval _).run _ w = _
        simp only [execOp, Act.eval, Array.getD_eq_getD_getElem?, e3, Option.getD_some, Instr.loadAt, Instr.sureAddr, Sem.run_bind, Sem.run_pure, Result.andThen_ok, hl, List.getElem_toArray, List.getElem_cons_succ, List.getElem_cons_zero]
    refine Reg.rs_cons ?_ ?_
    · intro a w hb hs hel hon
      obtain ⟨_, e8, rfl⟩ := hon 3 8 (by kernel_rfl) rfl
      obtain ⟨_, e9, rfl⟩ := hon 4 9 (by kernel_rfl) rfl
      refine ⟨_, rfl, fun K hK => ?_⟩
      refine goes_ Try.func10 (by kernel_rfl) rfl #[.int .i64 kind, .agg (instL x0 x1 x2 x3 x4 x5 x6 x7 x8 x9).toArray] (by rfl) rfl rfl (by first | (simp only [List.map_toArray, List.map_cons, List.map_nil, Act.eval, Array.getD_eq_getD_getElem?, Option.getD_some, e8, e9]; done) | (simp only [List.map_toArray, List.map_cons, List.map_nil, Act.eval, Array.getD_eq_getD_getElem?, Option.getD_some, e8, e9]; rfl) | rfl) ?_
      refine (RefStep_calls kind x0 x1 x2 x3 x4 x5 x6 x7 x8 x9 w).mono ?_
      rintro e w2 ⟨rfl, hb2⟩
      exact ⟨_, rfl, hK.out _ _ hb2 rfl⟩
    refine Reg.rs_cons ?_ ?_
    · intro a w hb hs hel hon
      obtain ⟨_, e7, rfl⟩ := hon 2 7 (by kernel_rfl) rfl
      obtain ⟨_, e10, rfl⟩ := hon 5 10 (by kernel_rfl) rfl
      obtain ⟨_, g7⟩ := Array.getElem?_eq_some_iff.1 e7
      obtain ⟨_, g10⟩ := Array.getElem?_eq_some_iff.1 e10
      refine ⟨_, rfl, fun K hK => ?_⟩
      refine value_ (w1 := w) (v := .bool true) (by rfl) rfl ?_ (hK.out _ _ (Below.refl _ _) (rfl))
      · go_simp
        obtain ⟨y1, y2, e⟩ := stepped_ints kind x0 x1 x2 x3 x4 x5 x6 x7 x8 x9
        rw [e, eq_ten]
        rfl
    refine Reg.rs_cons ?_ ?_
    · intro a w hb hs hel hon
      obtain ⟨_, e11, rfl⟩ := hon 6 11 (by kernel_rfl) rfl
      obtain ⟨_, g11⟩ := Array.getElem?_eq_some_iff.1 e11
      refine ⟨_, rfl, fun K hK => ?_⟩
      refine value_ (w1 := w) (v := .bool true) (by rfl) rfl ?_ (hK.out _ _ (Below.refl _ _) (rfl))
      · go_simp
        (try simp only [i64_w, g11])
        (try go_simp)
        try rfl
    refine Reg.rs_cons ?_ ?_
    · intro a w hb hs hel hon
      have e0 : a.tmps[0]? = some (.int .i64 kind) := (hel 0 (by decide)).trans rfl
      obtain ⟨_, e12, rfl⟩ := hon 7 12 (by kernel_rfl) rfl
      obtain ⟨_, g0⟩ := Array.getElem?_eq_some_iff.1 e0
      obtain ⟨_, g12⟩ := Array.getElem?_eq_some_iff.1 e12
      refine ⟨_, rfl, fun K hK => ?_⟩
      refine value_ (w1 := w) (v := .int .i64 kind) (wanted_on rfl rfl rfl e12) rfl ?_ (hK.out _ _ (Below.refl _ _) (rfl))
      · go_simp
        (try simp only [i64_w, g0, g12])
        (try go_simp)
        try rfl
    refine Reg.rs_cons ?_ ?_
    · intro a w hb hs hel hon
      obtain ⟨_, e13, rfl⟩ := hon 8 13 (by kernel_rfl) rfl
      obtain ⟨_, e12, rfl⟩ := hon 7 12 (by kernel_rfl) rfl
      refine ⟨_, rfl, fun K hK => ?_⟩
      refine goes_ Try.func11 (by kernel_rfl) rfl #[.int .i64 kind] (wanted_on rfl rfl rfl e12) rfl rfl (by first | (simp only [List.map_toArray, List.map_cons, List.map_nil, Act.eval, Array.getD_eq_getD_getElem?, Option.getD_some, e13, e12]; done) | (simp only [List.map_toArray, List.map_cons, List.map_nil, Act.eval, Array.getD_eq_getD_getElem?, Option.getD_some, e13, e12]; rfl) | rfl) ?_
      refine (HI.out w).mono ?_
      rintro e w2 ⟨rfl, rfl⟩
      exact ⟨_, rfl, hK.out _ _ (Below.refl _ _) rfl⟩
    refine Reg.rs_cons ?_ ?_
    · intro a w hb hs hel hon
      have e0 : a.tmps[0]? = some (.int .i64 kind) := (hel 0 (by decide)).trans rfl
      obtain ⟨_, e12, rfl⟩ := hon 7 12 (by kernel_rfl) rfl
      obtain ⟨_, g0⟩ := Array.getElem?_eq_some_iff.1 e0
      obtain ⟨_, g12⟩ := Array.getElem?_eq_some_iff.1 e12
      refine ⟨_, rfl, fun K hK => ?_⟩
      refine value_ (w1 := w) (v := .int .i64 kind) (wanted_on rfl rfl rfl e12) rfl ?_ (hK.out _ _ (Below.refl _ _) (rfl))
      · go_simp
        (try simp only [i64_w, g0, g12])
        (try go_simp)
        try rfl
    refine Reg.rs_cons ?_ ?_
    · intro a w hb hs hel hon
      obtain ⟨_, e15, rfl⟩ := hon 10 15 (by kernel_rfl) rfl
      obtain ⟨_, e12, rfl⟩ := hon 7 12 (by kernel_rfl) rfl
      obtain ⟨_, g15⟩ := Array.getElem?_eq_some_iff.1 e15
      obtain ⟨_, g12⟩ := Array.getElem?_eq_some_iff.1 e12
      refine ⟨_, rfl, fun K hK => ?_⟩
      refine value_ (w1 := w) (v := .bool false) (wanted_on rfl rfl rfl e12) rfl ?_ (hK.out _ _ (Below.refl _ _) (rfl))
      · go_simp
        (try simp only [i64_w, E7, E8])
        (try go_simp)
        try rfl
    refine Reg.rs_cons ?_ ?_
    · intro a w hb hs hel hon
      obtain ⟨_, e16, rfl⟩ := hon 11 16 (by kernel_rfl) rfl
      obtain ⟨_, e12, rfl⟩ := hon 7 12 (by kernel_rfl) rfl
      obtain ⟨_, g16⟩ := Array.getElem?_eq_some_iff.1 e16
      obtain ⟨_, g12⟩ := Array.getElem?_eq_some_iff.1 e12
      refine ⟨_, rfl, fun K hK => ?_⟩
      refine value_ (w1 := w) (v := .bool false) (wanted_on rfl rfl rfl e12) rfl ?_ (hK.out _ _ (Below.refl _ _) (rfl))
      · go_simp
        (try simp only [i64_w, g16, g12])
        (try go_simp)
        try rfl
    refine Reg.rs_cons ?_ ?_
    · intro a w hb hs hel hon
      have e0 : a.tmps[0]? = some (.int .i64 kind) := (hel 0 (by decide)).trans rfl
      obtain ⟨_, e17, rfl⟩ := hon 12 17 (by kernel_rfl) rfl
      obtain ⟨_, g0⟩ := Array.getElem?_eq_some_iff.1 e0
      obtain ⟨_, g17⟩ := Array.getElem?_eq_some_iff.1 e17
      refine ⟨_, rfl, fun K hK => ?_⟩
      refine value_ (w1 := w) (v := .int .i64 kind) (wanted_on rfl rfl rfl e17) rfl ?_ (hK.out _ _ (Below.refl _ _) (rfl))
      · go_simp
        (try simp only [i64_w, g0, g17])
        (try go_simp)
        try rfl
    refine Reg.rs_cons ?_ ?_
    · intro a w hb hs hel hon
      obtain ⟨_, e18, rfl⟩ := hon 13 18 (by kernel_rfl) rfl
      obtain ⟨_, e17, rfl⟩ := hon 12 17 (by kernel_rfl) rfl
      obtain ⟨_, g18⟩ := Array.getElem?_eq_some_iff.1 e18
      obtain ⟨_, g17⟩ := Array.getElem?_eq_some_iff.1 e17
      refine ⟨_, rfl, fun K hK => ?_⟩
      refine value_ (w1 := w) (v := .bool false) (wanted_on rfl rfl rfl e17) rfl ?_ (hK.out _ _ (Below.refl _ _) (rfl))
      · go_simp
        (try simp only [i64_w, E7, E8])
        (try go_simp)
        try rfl
    refine Reg.rs_cons ?_ ?_
    · intro a w hb hs hel hon
      obtain ⟨_, e17, rfl⟩ := hon 12 17 (by kernel_rfl) rfl
      obtain ⟨_, e19, rfl⟩ := hon 14 19 (by kernel_rfl) rfl
      obtain ⟨_, e12, rfl⟩ := hon 7 12 (by kernel_rfl) rfl
      obtain ⟨_, g17⟩ := Array.getElem?_eq_some_iff.1 e17
      obtain ⟨_, g19⟩ := Array.getElem?_eq_some_iff.1 e19
      obtain ⟨_, g12⟩ := Array.getElem?_eq_some_iff.1 e12
      refine ⟨_, rfl, fun K hK => ?_⟩
      refine value_ (w1 := w) (v := .bool false) (wanted_on rfl rfl rfl e12) rfl ?_ (hK.out _ _ (Below.refl _ _) (rfl))
      · go_simp
        (try simp only [i64_w, g17, g19, g12])
        (try go_simp)
        try rfl
    refine Reg.rs_cons ?_ ?_
    · intro a w hb hs hel hon
      obtain ⟨_, e14, rfl⟩ := hon 9 14 (by kernel_rfl) rfl
      obtain ⟨_, e20, rfl⟩ := hon 15 20 (by kernel_rfl) rfl
      obtain ⟨_, e12, rfl⟩ := hon 7 12 (by kernel_rfl) rfl
      obtain ⟨_, g14⟩ := Array.getElem?_eq_some_iff.1 e14
      obtain ⟨_, g20⟩ := Array.getElem?_eq_some_iff.1 e20
      obtain ⟨_, g12⟩ := Array.getElem?_eq_some_iff.1 e12
      refine ⟨_, rfl, fun K hK => ?_⟩
      refine value_ (w1 := w) (v := .bool true) (wanted_on rfl rfl rfl e12) rfl ?_ (hK.out _ _ (Below.refl _ _) (rfl))
      · go_simp
        (try simp only [i64_w, g14, g20, g12])
        (try go_simp)
        try rfl
    refine Reg.rs_cons ?_ ?_
    · intro a w hb hs hel hon
      obtain ⟨_, e12, rfl⟩ := hon 7 12 (by kernel_rfl) rfl
      obtain ⟨_, e21, rfl⟩ := hon 16 21 (by kernel_rfl) rfl
      obtain ⟨_, g12⟩ := Array.getElem?_eq_some_iff.1 e12
      obtain ⟨_, g21⟩ := Array.getElem?_eq_some_iff.1 e21
      refine ⟨_, rfl, fun K hK => ?_⟩
      refine value_ (w1 := w) (v := .bool true) (by rfl) rfl ?_ (hK.out _ _ (Below.refl _ _) (rfl))
      · go_simp
        (try simp only [i64_w, g12, g21])
        (try go_simp)
        try rfl
    refine Reg.rs_cons ?_ ?_
    · intro a w hb hs hel hon
      obtain ⟨_, e22, rfl⟩ := hon 17 22 (by kernel_rfl) rfl
      obtain ⟨_, g22⟩ := Array.getElem?_eq_some_iff.1 e22
      refine ⟨_, rfl, fun K hK => ?_⟩
      refine value_ (w1 := w) (v := .bool true) (by rfl) rfl ?_ (hK.out _ _ (Below.refl _ _) (rfl))
      · go_simp
        (try simp only [i64_w, g22])
        (try go_simp)
        try rfl
    refine Reg.rs_cons ?_ ?_
    · intro a w hb hs hel hon
      obtain ⟨_, e23, rfl⟩ := hon 18 23 (by kernel_rfl) rfl
      refine ⟨_, rfl, fun K hK => ?_⟩
      refine goes_ Try.func12 (by kernel_rfl) rfl #[] (wanted_on rfl rfl rfl e23) rfl rfl (by first | (simp only [List.map_toArray, List.map_cons, List.map_nil, Act.eval, Array.getD_eq_getD_getElem?, Option.getD_some, e23]; done) | (simp only [List.map_toArray, List.map_cons, List.map_nil, Act.eval, Array.getD_eq_getD_getElem?, Option.getD_some, e23]; rfl) | rfl) ?_
      refine (awake_calls w).mono ?_
      rintro e w2 ⟨rfl, hb2⟩
      exact ⟨_, rfl, hK.out _ _ hb2 rfl⟩
    refine Reg.rs_cons ?_ ?_
    · intro a w hb hs hel hon
      obtain ⟨_, e23, rfl⟩ := hon 18 23 (by kernel_rfl) rfl
      obtain ⟨_, e24, rfl⟩ := hon 19 24 (by kernel_rfl) rfl
      obtain ⟨_, g23⟩ := Array.getElem?_eq_some_iff.1 e23
      obtain ⟨_, g24⟩ := Array.getElem?_eq_some_iff.1 e24
      refine ⟨_, rfl, fun K hK => ?_⟩
      refine value_ (w1 := w) (v := .bool true) (by rfl) rfl ?_ (hK.out _ _ (Below.refl _ _) (rfl))
      · go_simp
        (try simp only [i64_w, g23, g24])
        (try go_simp)
        try rfl
    refine Reg.rs_cons ?_ ?_
    · intro a w hb hs hel hon
      obtain ⟨_, e25, rfl⟩ := hon 20 25 (by kernel_rfl) rfl
      obtain ⟨_, g25⟩ := Array.getElem?_eq_some_iff.1 e25
      refine ⟨_, rfl, fun K hK => ?_⟩
      refine value_ (w1 := w) (v := .bool true) (by rfl) rfl ?_ (hK.out _ _ (Below.refl _ _) (rfl))
      · go_simp
        (try simp only [i64_w, g25])
        (try go_simp)
        try rfl
    exact Reg.rs_nil
  · intro a w hI
    rename_i K_ hK_
    refine hK_ a w ?_
    go_wp2
    obtain ⟨v4, e4, rfl⟩ := hI.vals 21 4 rfl rfl
    exact Reg.ret_slot (R := fun e w' => e = .returned (.bool true) ∧ Below _ _ w') (by kernel_rfl) hI.defers e4 ⟨rfl, hb0.trans (hI.below.mono hb0.size)⟩
end Go.Proofs.Ytohdabkhafcdkaa
