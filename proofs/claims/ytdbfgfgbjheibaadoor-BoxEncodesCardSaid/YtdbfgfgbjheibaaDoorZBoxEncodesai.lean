/- Printed by a program of this session (wip/pg.py, over the print of the kit): functions, their Lean twins, and the proofs that the calls come to them; each under the conditions that it names. -/
import Derived.Test.YtdbfgfgbjheibaaDoorZBoxEncodesq
import Derived.Test.YtdbfgfgbjheibaaDoorZBoxEncodesab
section
/- Printed by a program of this session (wip/pg.py, over the print of the kit): functions, their Lean twins, and the proofs that the calls come to them; each under the conditions that it names. -/
namespace Go.Proofs.YtdbfgfgbjheibaaDoor.PBx
open Go.RowKit Go.Proofs.YtdbfgfgbjheibaaDoorW.PrintWords Go.Proofs.YtdbfgfgbjheibaaDoorW.PrintLast Go.Proofs.YtdbfgfgbjheibaaDoorW.PrintMore
attribute [local go_sem] max2_int min2_int max_two min_two max_three min_three max_four min_four   -- for this text's walks alone
set_option linter.unusedVariables false
set_option linter.unusedSimpArgs false

/-! ### r03_held: function 73 -/
def r03_held.f (a0 : Int) : Option (Int) := if a0 < 0 then (some 0) else (if a0 > 8 then (some 8) else (some a0))
set_option maxHeartbeats 8000000 in
set_option maxRecDepth 100000 in
theorem r03_held.calls (a0 : Int) (r : Int) (w : World) (h : r03_held.f a0 = some r) :
  Calls Tryd.prog 73 #[.int .i64 a0] w fun e w' => e = .returned (.int .i64 r) ∧ Drawn0 w w' := by
 have H : (if a0 < 0 then (some 0) else (if a0 > 8 then (some 8) else (some a0))) = some r := h
 clear h
 by_cases c2 : a0 < 0
 ·rw [if_pos c2] at H
  have c2b0 : decide (a0 < 0) = true := decide_eq_true c2
  clear c2
  obtain rfl := zJ H
  go_enter Tryd.func73, Tryd.ntmps73
  go_wp2
  go_ret
  exact ⟨by first | rfl | (simp; done) | (simp [*]; done), by repeat (first | exact z4 _ | apply z3)⟩
 ·rw [if_neg c2] at H
  have c2b0 : decide (a0 < 0) = false := decide_eq_false c2
  clear c2
  by_cases c3 : a0 > 8
  ·rw [if_pos c3] at H
   have c3b0 : decide (8 < a0) = true := decide_eq_true c3
   clear c3
   obtain rfl := zJ H
   go_enter Tryd.func73, Tryd.ntmps73
   go_wp2
   go_ret
   exact ⟨by first | rfl | (simp; done) | (simp [*]; done), by repeat (first | exact z4 _ | apply z3)⟩
  ·rw [if_neg c3] at H
   have c3b0 : decide (8 < a0) = false := decide_eq_false c3
   clear c3
   obtain rfl := zJ H
   go_enter Tryd.func73, Tryd.ntmps73
   go_wp2
   go_ret
   exact ⟨by first | rfl | (simp; done) | (simp [*]; done), by repeat (first | exact z4 _ | apply z3)⟩

/-! ### r03_Put: function 34 -/
def r03_Put.l0 : Nat → Int → List Int → Int → Int → Option (List Int)
 | 0, _, _, _, _ => none
 | k + 1, x1, x7, x8, x9 => (r03_held.f x1).bind fun t312 => (if x9 < t312 then (if x7.length < 140737488355328 then (r03_Put.l0 k x1 (x7 ++ [(Int.tmod x8 256) % 256]) (IntKind.u64.wrap (Int.tdiv x8 256)) (wrap64 (x9 + 1))) else (none)) else (some x7))
def r03_Put.f (k : Nat) (l0 : List Int) (a1 : Int) (a2 : Int) : Option (List Int) := (some (([] : List Int) : List Int)).bind fun y306 => (if y306.length + l0.length < 140737488355328 then (r03_Put.l0 k a1 (y306 ++ l0) (IntKind.u64.wrap (a2)) 0) else (none))
set_option maxHeartbeats 8000000 in
set_option maxRecDepth 100000 in
theorem r03_Put.calls (k : Nat) (A0 : Option Addr) (c0 : Nat) (l0 : List Int) (a1 : Int) (a2 : Int) (r : List Int) (w : World) (hr0 : Kd.C (Kd.int .u8) w A0 l0.length l0) (hc0 : l0.length ≤ c0) (h : r03_Put.f k l0 a1 a2 = some r) :
  Calls Tryd.prog 34 #[.slice A0 l0.length c0, .int .i64 a1, .int .i64 a2] w fun e w' => ∃ v0_ : Value, e = .returned (v0_) ∧ Kd.R (Kd.int .u8) 5 w' w.heap.size (fun _ => True) v0_ r ∧ Below w.heap.size w w' := by
 have HR0 := zA hr0
 have HC0 := zA hc0
 clear hr0 hc0
 have HB := zA (zX w.heap.size w)
 have H : ((some (([] : List Int) : List Int)).bind fun y306 => (if y306.length + l0.length < 140737488355328 then (r03_Put.l0 k a1 (y306 ++ l0) (IntKind.u64.wrap (a2)) 0) else (none))) = some r := h
 clear h
 obtain ⟨y306, hy306⟩ : ∃ y_ : List Int, y_ = (([] : List Int)) := ⟨_, rfl⟩
 replace H : (if y306.length + l0.length < 140737488355328 then (r03_Put.l0 k a1 (y306 ++ l0) (IntKind.u64.wrap (a2)) 0) else (none)) = some r := by first | (rw [hy306]; with_reducible exact H) | (have H2_ := (zP _ _).symm.trans H; rw [hy306]; with_reducible exact H2_) | (have H2_ := (zP _ _).symm.trans H; with_reducible exact H2_) | with_reducible exact H | (rw [hy306]; exact H) | exact H
 have Ny306 := zA hy306
 clear hy306
 by_cases c4 : y306.length + l0.length < 140737488355328
 ·rw [if_pos c4] at H
  have LMc4 := zA c4
  clear c4
  obtain ⟨y309, hy309⟩ : ∃ y_ : List Int, y_ = (y306 ++ l0) := ⟨_, rfl⟩
  replace H : (r03_Put.l0 k a1 y309 (IntKind.u64.wrap (a2)) 0) = some r := by first | (rw [hy309]; with_reducible exact H) | (have H2_ := (zP _ _).symm.trans H; rw [hy309]; with_reducible exact H2_) | (have H2_ := (zP _ _).symm.trans H; with_reducible exact H2_) | with_reducible exact H | (rw [hy309]; exact H) | exact H
  have Ny309 := zA hy309
  clear hy309
  have H' := zA H
  clear H
  go_enter Tryd.func34, Tryd.ntmps34
  go_wp2_with (first | ((with_reducible refine gate_dst (N := 10) rfl ?_); refine Kd.R_lit (Kd.int .u8) _ 5 ?hg (N := 10) ?hd (xs := ([] : List Int)) (inner := []) (ok := fun _ => True) (okp := fun _ => True) ?hr ?hp (fun _ hk => hk) trivial (zX _ _) (z5 _) (by simp) ?_; (case hd => rfl); (case hg => rfl); (case hr => first | (go_simp; done) | (go_simp; rfl)); (case hp => exact (Reps.none _ _)); intro v307 w5 ho6 hb hg_ hnew_; clear hg_ hnew_; (first | rw [← Ny306.out] at ho6 | (simp only [Int.reduceToNat] at ho6; rw [← Ny306.out] at ho6)); have HO308 := zA (Kd.R_lower ho6 (below_size (by repeat (first | (with_reducible first | exact HB.out | apply zB | apply zN | apply below_drew1) | exact HB.out)))); replace HB := zA (below_step (by repeat (first | (with_reducible first | exact HB.out | apply zB | apply zN | apply below_drew1) | exact HB.out)) hb); clear hb ho6) | ((with_reducible refine gate_builtin (b := .append) (xs := #[.tmp 10, .tmp 11]) rfl ?_); at_builtin; refine Kd.R_append_rows (Kd.int .u8) (w0 := w) w.heap.size rfl (.tmp 10) (.tmp 11) 28 5 (.int .u8 0) 1 rfl Tryd.underlying28 info5 rfl (by decide) (by omega) v307 y306 l0 _ _ _ (fun _ => True) (fun _ => False) rfl rfl ?aO ?aR (fun _ _ h => h) (fun _ h => h.elim) ?aF ?aB ?aS ?aL ?_; (case aR => repeat (first | exact (zD HR0.out HB.out))); (case aB => exact (by repeat (first | (with_reducible first | exact HB.out | apply zB | apply zN | apply below_drew1) | exact HB.out))); (case aF => exact (fun _ _ => trivial)); (case aO => exact (by (with_reducible repeat (first | apply zS | apply zT)); exact HO308.out)); (case aS => exact (below_size (by repeat (first | (with_reducible first | exact HB.out | apply zB | apply zN | apply below_drew1) | exact HB.out)))); (case aL => have := LMc4.out; omega); intro v310 w7 ho hb hg hat; rw [← Ny309.out] at ho; replace HB := zA (hb); have HO311 := zA (ho); clear HO308; clear ho hb hg hat))
  go_loopg [7, 8, 9] k (fun kq v7 v8 v9 w' => ∃ (x7_1 : List Int) (x8_1 : Int) (x9_1 : Int), v8 = .int .u64 x8_1 ∧ v9 = .int .i64 x9_1 ∧ Aside0 (r03_Put.l0 kq a1 x7_1 x8_1 x9_1 = some r) ∧ Aside0 (kq ≤ k) ∧ Aside0 (Kd.R (Kd.int .u8) 5 w' w.heap.size (fun _ => True) v7 x7_1) ∧ Aside0 (Below w.heap.size w w'))
  case atStart => exact ⟨(y309), (IntKind.u64.wrap (a2)), (0), (by first | rfl | (simp; done) | (simp [*]; done)), (by first | rfl | (simp; done) | (simp [*]; done)), H', ⟨z5 _⟩, ⟨by (with_reducible repeat (first | apply zS | apply zT)); exact HO311.out⟩, ⟨by repeat (first | (with_reducible first | exact HB.out | apply zB | apply zN | apply below_drew1) | exact HB.out)⟩⟩
  case round =>
   clear H'
   try clear p2
   try clear c3
   try clear c4
   obtain ⟨x7_1, x8_1, x9_1, rfl, rfl, HA, HK1, HO_7, HB⟩ := hrel
   cases gk with
   | zero => exact absurd HA.out (by simp [r03_Put.l0])
   | succ k1 =>
    have H := HA.out
    clear HA
    simp only [r03_Put.l0] at H
    replace H := Option.bind_eq_some_iff.mp H
    obtain ⟨t312, A80, H⟩ := H
    replace H : (if x9_1 < t312 then (if x7_1.length < 140737488355328 then (r03_Put.l0 k1 a1 (x7_1 ++ [(Int.tmod x8_1 256) % 256]) (IntKind.u64.wrap (Int.tdiv x8_1 256)) (wrap64 (x9_1 + 1))) else (none)) else (some x7_1)) = some r := H
    have A8 := zA A80
    clear A80
    by_cases c9 : x9_1 < t312
    ·rw [if_pos c9] at H
     have c9b0 : decide (x9_1 < t312) = true := decide_eq_true c9
     clear c9
     by_cases c10 : x7_1.length < 140737488355328
     ·rw [if_pos c10] at H
      have LMc10 := zA c10
      clear c10
      obtain ⟨y313, hy313⟩ : ∃ y_ : List Int, y_ = (x7_1 ++ [(Int.tmod x8_1 256) % 256]) := ⟨_, rfl⟩
      replace H : (r03_Put.l0 k1 a1 y313 (IntKind.u64.wrap (Int.tdiv x8_1 256)) (wrap64 (x9_1 + 1))) = some r := by first | (rw [hy313]; with_reducible exact H) | (have H2_ := (zP _ _).symm.trans H; rw [hy313]; with_reducible exact H2_) | (have H2_ := (zP _ _).symm.trans H; with_reducible exact H2_) | with_reducible exact H | (rw [hy313]; exact H) | exact H
      have Ny313 := zA hy313
      clear hy313
      have H' := zA H
      clear H
      go_wp2_with (first | ((with_reducible refine gate_callee (f := 73) rfl ?_); refine goesL_ (some 17) rfl rfl Tryd.func73 (by kernel_rfl) rfl #[.int .i64 a1] rfl (by (try simp only [zm, zc, zn]); first | done | rfl | (simp only [zd, zt]; rfl)) ?_; (with_reducible refine (r03_held.calls a1 t312 _ A8.out).mono ?_); rintro e w' ⟨rfl, ⟨nd, rfl⟩⟩; refine ⟨_, rfl, ?_⟩) | ((with_reducible refine gate_builtin (b := .append) (xs := #[.tmp 21, .tmp 25]) rfl ?_); at_builtin; refine Kd.R_append (Kd.int .u8) (w0 := w) w.heap.size rfl (.tmp 21) (.tmp 25) 28 5 (.int .u8 0) 1 rfl Tryd.underlying28 info5 rfl (by decide) (by omega) u7 x7_1 ((Int.tmod x8_1 256) % 256) [.int .u8 ((Int.tmod x8_1 256) % 256)] (fun _ => True) (fun _ => False) rfl rfl ?aP (fun _ hk => hk.elim) ?aF ?aO ?aB ?aS ?aL ?_; (case aP => exact rfl); (case aB => exact (by repeat (first | (with_reducible first | exact HB.out | apply zB | apply zN | apply below_drew1) | exact HB.out))); (case aF => exact (fun _ _ => trivial)); (case aO => exact (by (with_reducible repeat (first | apply zS | apply zT)); exact HO_7.out)); (case aS => exact (below_size (by repeat (first | (with_reducible first | exact HB.out | apply zB | apply zN | apply below_drew1) | exact HB.out)))); (case aL => have := LMc10.out; omega); intro v314 w11 ho hb hg hat; rw [← Ny313.out] at ho; replace HB := zA (hb); have HO315 := zA (ho); clear HO_7; clear ho hb hg hat))
      go_roundg k1
      case measure => have := HK1.out; omega
      case rel => exact ⟨(y313), (IntKind.u64.wrap (Int.tdiv x8_1 256)), (wrap64 (x9_1 + 1)), (by first | rfl | (simp; done) | (simp [*]; done)), (by first | rfl | (simp; done) | (simp [*]; done)), H', ⟨by have := HK1.out; omega⟩, ⟨by (with_reducible repeat (first | apply zS | apply zT)); exact HO315.out⟩, ⟨by repeat (first | (with_reducible first | exact HB.out | apply zB | apply zN | apply below_drew1) | exact HB.out)⟩⟩
     ·rw [if_neg c10] at H
      exact absurd H (by simp)
    ·rw [if_neg c9] at H
     have c9b0 : decide (x9_1 < t312) = false := decide_eq_false c9
     clear c9
     obtain rfl := zJ H
     go_wp2_with (first | ((with_reducible refine gate_callee (f := 73) rfl ?_); refine goesL_ (some 17) rfl rfl Tryd.func73 (by kernel_rfl) rfl #[.int .i64 a1] rfl (by (try simp only [zm, zc, zn]); first | done | rfl | (simp only [zd, zt]; rfl)) ?_; (with_reducible refine (r03_held.calls a1 t312 _ A8.out).mono ?_); rintro e w' ⟨rfl, ⟨nd, rfl⟩⟩; refine ⟨_, rfl, ?_⟩))
     go_ret
     exact ⟨_, by first | rfl | (simp [errW_none, errW_some] <;> rfl) | (simp [*, errW_none, errW_some] <;> rfl), by (with_reducible repeat (first | apply zS | apply zT)); exact HO_7.out, by repeat (first | (with_reducible first | exact HB.out | apply zB | apply zN | apply below_drew1) | exact HB.out)⟩
 ·rw [if_neg c4] at H
  exact absurd H (by simp)

/-! ### r14_small: function 69 -/
def r14_small.f (a0 : Int) : Option (Bool) := if a0 ≥ 0 then (some (decide (a0 < 256))) else (some false)
set_option maxHeartbeats 8000000 in
set_option maxRecDepth 100000 in
theorem r14_small.calls (a0 : Int) (r : Bool) (w : World) (h : r14_small.f a0 = some r) :
  Calls Tryd.prog 69 #[.int .i64 a0] w fun e w' => e = .returned (.bool r) ∧ Drawn0 w w' := by
 have H : (if a0 ≥ 0 then (some (decide (a0 < 256))) else (some false)) = some r := h
 clear h
 by_cases c2 : a0 ≥ 0
 ·rw [if_pos c2] at H
  have c2b0 : decide (0 ≤ a0) = true := decide_eq_true c2
  clear c2
  obtain rfl := zJ H
  go_enter Tryd.func69, Tryd.ntmps69
  go_wp2
  go_ret
  exact ⟨by first | rfl | (simp; done) | (simp [*]; done), by repeat (first | exact z4 _ | apply z3)⟩
 ·rw [if_neg c2] at H
  have c2b0 : decide (0 ≤ a0) = false := decide_eq_false c2
  clear c2
  obtain rfl := zJ H
  go_enter Tryd.func69, Tryd.ntmps69
  go_wp2
  go_ret
  exact ⟨by first | rfl | (simp; done) | (simp [*]; done), by repeat (first | exact z4 _ | apply z3)⟩

/-! ### r14_Consts: function 30 -/
def r14_Consts.l0 : Nat → List (S68) → List Int → Int → Option (List Int × Bool)
 | 0, _, _, _ => none
 | k + 1, x0, x4, x5 => if x5 < (x0.length : Int) then (if 0 ≤ x5 then ((r14_small.f ((rd_T68 x0 x5).f0)).bind fun t320 => (if t320 = true then ((r03_Put.f k x4 1 ((rd_T68 x0 x5).f0)).bind fun t322 => ((r03_Put.f k t322 8 ((rd_T68 x0 x5).f1)).bind fun t326 => (r14_Consts.l0 k x0 t326 (wrap64 (x5 + 1))))) else (some (([] : List Int), false)))) else (none)) else (some (x4, true))
def r14_Consts.f (k : Nat) (l0 : List (S68)) : Option (List Int × Bool) := if (l0.length : Int) > 1024 then (some (([] : List Int), false)) else ((r03_Put.f k ([] : List Int) 2 (l0.length : Int)).bind fun t316 => (r14_Consts.l0 k l0 t316 0))
def r14_Consts.T9 : Bool × List (List Nat × List Nat) := (true, [([], []), ([], []), ([], []), ([1, 2], [1, 2]), ([3], [3]), ([4], [4]), ([0, 5], [0, 5]), ([], []), ([], []), ([7, 8], [7, 8]), ([9], [9]), ([10], [10]), ([6, 11, 6], [6, 11]), ([12, 12, 0, 1, 2, 3, 4, 5, 6, 7, 8, 9, 10, 11, 12], [0, 12])])
def r14_Consts.B9 : List Nat := [0, 0, 0, 6, 14, 30, 63, 0, 0, 384, 896, 1920, 4095, 8191]
theorem r14_Consts.tab9 : rtab .any (opsOf Tryd.f30 9) = r14_Consts.T9 := by kernel_rfl
theorem r14_Consts.bits9 : waitsOk r14_Consts.T9.2 r14_Consts.B9 = true := by kernel_rfl
set_option maxHeartbeats 8000000 in
set_option maxRecDepth 100000 in
theorem r14_Consts.calls (k : Nat) (A0 : Option Addr) (c0 : Nat) (l0 : List (S68)) (r1 : List Int) (r2 : Bool) (w : World) (hr0 : Kd.C k68 w A0 l0.length l0) (hc0 : l0.length ≤ c0) (h : r14_Consts.f k l0 = some (r1, r2)) :
  Calls Tryd.prog 30 #[.slice A0 l0.length c0] w fun e w' => ∃ v0_ : Value, e = .returned (.tuple #[v0_, .bool r2]) ∧ Kd.R (Kd.int .u8) 5 w' w.heap.size (fun _ => True) v0_ r1 ∧ Below w.heap.size w w' := by
 have HR0 := zA hr0
 have HC0 := zA hc0
 clear hr0 hc0
 have HB := zA (zX w.heap.size w)
 have H : (if (l0.length : Int) > 1024 then (some (([] : List Int), false)) else ((r03_Put.f k ([] : List Int) 2 (l0.length : Int)).bind fun t316 => (r14_Consts.l0 k l0 t316 0))) = some (r1, r2) := h
 clear h
 by_cases c2 : (l0.length : Int) > 1024
 ·rw [if_pos c2] at H
  have c2b0 : decide (1024 < (l0.length : Int)) = true := decide_eq_true c2
  have c2b1 : decide (1024 < l0.length) = true := decide_eq_true (by omega)
  clear c2
  simp only [Option.some.injEq, Prod.mk.injEq] at H
  obtain ⟨rfl, rfl⟩ := H
  go_enter Tryd.func30, Tryd.ntmps30
  go_wp2
  go_ret2
  exact ⟨_, by first | rfl | (simp [errW_none, errW_some] <;> rfl) | (simp [*, errW_none, errW_some] <;> rfl), by first | exact Kd.R_nil _ _ _ _ _ | exact Kd.N_nil _ _ _ _ _ | exact Kd.V_nil _ _ _ _ _ | exact Kd.Q_nil _ _ _ _ _ | exact Kd.S_nil _ _ _ _ _, by repeat (first | (with_reducible first | exact HB.out | apply zB | apply zN | apply below_drew1) | exact HB.out)⟩
 ·rw [if_neg c2] at H
  have c2b0 : decide (1024 < (l0.length : Int)) = false := decide_eq_false c2
  have c2b1 : decide (1024 < l0.length) = false := decide_eq_false (by omega)
  clear c2
  replace H := Option.bind_eq_some_iff.mp H
  obtain ⟨t316, A30, H⟩ := H
  replace H : (r14_Consts.l0 k l0 t316 0) = some (r1, r2) := H
  have A3 := zA A30
  clear A30
  have H' := zA H
  clear H
  go_enter Tryd.func30, Tryd.ntmps30
  go_wp2_with (first | ((with_reducible refine gate_callee (f := 34) rfl ?_); refine goesL_ (some 11) rfl rfl Tryd.func34 (by kernel_rfl) rfl #[.slice none 0 0, .int .i64 2, .int .i64 (l0.length : Int)] rfl (by (try simp only [zm, zc, zn]); first | done | rfl | (simp only [zd, zt]; rfl)) ?_; (refine (r03_Put.calls k _ _ ([] : List Int) 2 (l0.length : Int) t316 _ ?side1 ?side2 A3.out).mono ?_); (case side1 => exact Kd.C_nil _ _); (case side2 => exact z5 _); rintro e w4 ⟨v317, rfl, ho0, hb⟩; refine ⟨_, rfl, ?_⟩; have HO318 := zA (Kd.R_lower ho0 (below_size (by repeat (first | (with_reducible first | exact HB.out | apply zB | apply zN | apply below_drew1) | exact HB.out)))); replace HB := zA (below_step (by repeat (first | (with_reducible first | exact HB.out | apply zB | apply zN | apply below_drew1) | exact HB.out)) hb); (try clear hb); (try clear hb2); (try clear hk); (try clear hi); (try clear ho0)))
  go_loopg [4, 5] k (fun kq v4 v5 w' => ∃ (x4_1 : List Int) (x5_1 : Int), v5 = .int .i64 x5_1 ∧ Aside0 (r14_Consts.l0 kq l0 x4_1 x5_1 = some (r1, r2)) ∧ Aside0 (kq ≤ k) ∧ Aside0 (Kd.R (Kd.int .u8) 5 w' w.heap.size (fun _ => True) v4 x4_1) ∧ Aside0 (Below w.heap.size w w'))
  case atStart => exact ⟨(t316), (0), (by first | rfl | (simp; done) | (simp [*]; done)), H', ⟨z5 _⟩, ⟨by (with_reducible repeat (first | apply zS | apply zT)); exact HO318.out⟩, ⟨by repeat (first | (with_reducible first | exact HB.out | apply zB | apply zN | apply below_drew1) | exact HB.out)⟩⟩
  case round =>
   clear H'
   try clear c2
   try clear c2b0
   try clear c2b1
   try clear p2
   try clear c3
   obtain ⟨x4_1, x5_1, rfl, HA, HK1, HO_4, HB⟩ := hrel
   cases gk with
   | zero => exact absurd HA.out (by simp [r14_Consts.l0])
   | succ k1 =>
    have H := HA.out
    clear HA
    simp only [r14_Consts.l0] at H
    by_cases c5 : x5_1 < (l0.length : Int)
    ·rw [if_pos c5] at H
     have c5b0 : decide (x5_1 < (l0.length : Int)) = true := decide_eq_true c5
     clear c5
     by_cases c6 : 0 ≤ x5_1
     ·rw [if_pos c6] at H
      have c6b0 : decide (0 ≤ x5_1) = true := decide_eq_true c6
      clear c6
      replace H := Option.bind_eq_some_iff.mp H
      obtain ⟨t320, A70, H⟩ := H
      replace H : (if t320 = true then ((r03_Put.f k1 x4_1 1 ((rd_T68 l0 x5_1).f0)).bind fun t322 => ((r03_Put.f k1 t322 8 ((rd_T68 l0 x5_1).f1)).bind fun t326 => (r14_Consts.l0 k1 l0 t326 (wrap64 (x5_1 + 1))))) else (some (([] : List Int), false))) = some (r1, r2) := H
      have A7 := zA A70
      clear A70
      by_cases c8 : t320 = true
      ·subst c8
       have H1 : ((r03_Put.f k1 x4_1 1 ((rd_T68 l0 x5_1).f0)).bind fun t322 => ((r03_Put.f k1 t322 8 ((rd_T68 l0 x5_1).f1)).bind fun t326 => (r14_Consts.l0 k1 l0 t326 (wrap64 (x5_1 + 1))))) = some (r1, r2) := by rw [if_pos rfl] at H; exact H
       clear H
       have H := H1
       clear H1
       replace H := Option.bind_eq_some_iff.mp H
       obtain ⟨t322, A90, H⟩ := H
       replace H : ((r03_Put.f k1 t322 8 ((rd_T68 l0 x5_1).f1)).bind fun t326 => (r14_Consts.l0 k1 l0 t326 (wrap64 (x5_1 + 1)))) = some (r1, r2) := H
       have A9 := zA A90
       clear A90
       replace H := Option.bind_eq_some_iff.mp H
       obtain ⟨t326, A100, H⟩ := H
       replace H : (r14_Consts.l0 k1 l0 t326 (wrap64 (x5_1 + 1))) = some (r1, r2) := H
       have A10 := zA A100
       clear A100
       have H' := zA H
       clear H
       have p319 : 0 ≤ (x5_1 : Int) := zO (by first | (with_reducible assumption) | assumption)
       have q319 : x5_1 < (l0.length : Int) := zO (by first | (with_reducible assumption) | assumption)
       obtain ⟨ad319, e319, hx319_0, hx319_1⟩ := at_T68 HR0.out x5_1 p319 q319
       cases e319
       replace hx319_0 := (HB.out.cell (zL w _ hx319_0)).trans hx319_0
       replace hx319_1 := (HB.out.cell (zL w _ hx319_1)).trans hx319_1
       replace p319 := eq_true p319
       replace q319 := eq_true q319
       try go_wp2_with (first | ((with_reducible refine gate_callee (f := 69) rfl ?_); refine goesL_ (some 23) rfl rfl Tryd.func69 (by kernel_rfl) rfl #[.int .i64 ((rd_T68 l0 x5_1).f0)] rfl (by (try simp only [zm, zc, zn]); first | done | rfl | (simp only [zd, zt]; rfl)) ?_; (with_reducible refine (r14_small.calls ((rd_T68 l0 x5_1).f0) true _ A7.out).mono ?_); rintro e w' ⟨rfl, ⟨nd, rfl⟩⟩; refine ⟨_, rfl, ?_⟩))
       (try (rw [drewN_self wr]; generalize hq_ : World.drewN wr _ = wr; have n0_ : Aside0 (Kd.R (Kd.int .u8) 5 wr w.heap.size (fun _ => True) u4 x4_1) := ⟨by rw [← hq_]; exact (by (with_reducible repeat (first | apply zS | apply zT)); exact HO_4.out)⟩; have n1_ : Aside0 (Below w.heap.size w wr) := ⟨by rw [← hq_]; exact (by repeat (first | (with_reducible first | exact HB.out | apply zB | apply zN | apply below_drew1) | exact HB.out))⟩; clear HO_4 HB hq_; have HO_4 := n0_; have HB := n1_; clear n0_ n1_))
       replace HO_4 := zA (zT HO_4.out)
       replace HB := zA (below_drew1 HB.out)
       have p321 : 0 ≤ (x5_1 : Int) := zO (by first | (with_reducible assumption) | assumption)
       have q321 : x5_1 < (l0.length : Int) := zO (by first | (with_reducible assumption) | assumption)
       obtain ⟨ad321, e321, hx321_0, hx321_1⟩ := at_T68 HR0.out x5_1 p321 q321
       have hw321_1 := hx321_1
       have hw321_0 := hx321_0
       obtain rfl : ad319 = ad321 := (by injection e321)
       replace hx321_0 := (HB.out.cell (zL w _ hx321_0)).trans hx321_0
       replace hx321_1 := (HB.out.cell (zL w _ hx321_1)).trans hx321_1
       replace p321 := eq_true p321
       replace q321 := eq_true q321
       have p325 : 0 ≤ (x5_1 : Int) := zO (by first | (with_reducible assumption) | assumption)
       have q325 : x5_1 < (l0.length : Int) := zO (by first | (with_reducible assumption) | assumption)
       obtain ⟨ad325, e325, hx325_0, hx325_1⟩ := at_T68 HR0.out x5_1 p325 q325
       have hw325_1 := hx325_1
       have hw325_0 := hx325_0
       obtain rfl : ad319 = ad325 := (by injection e325)
       replace hx325_0 := (HB.out.cell (zL w _ hx325_0)).trans hx325_0
       replace hx325_1 := (HB.out.cell (zL w _ hx325_1)).trans hx325_1
       replace p325 := eq_true p325
       replace q325 := eq_true q325
       obtain ⟨Ao12, co12, eo12⟩ := Kd.R_slice HO_4.out
       (first | subst eo12 | (injection eo12 with f1_ f2_ f3_; have f4_ := f1_.symm; have f5_ := f3_.symm; clear f1_ f2_ f3_; subst f4_; subst f5_))
       refine start_ (n := 14) (S := fun w' => w'.cell? (ad319.add ((x5_1).toNat * 2)) = some (.int .i64 ((rd_T68 l0 x5_1).f0)) ∧ w'.cell? ⟨(ad319.add ((x5_1).toNat * 2)).block, (ad319.add ((x5_1).toNat * 2)).off + 1, none⟩ = some (.int .i64 ((rd_T68 l0 x5_1).f1)) ∧ w'.cell? (ad319.add ((x5_1).toNat * 2)) = some (.int .i64 ((rd_T68 l0 x5_1).f0)) ∧ w'.cell? ⟨(ad319.add ((x5_1).toNat * 2)).block, (ad319.add ((x5_1).toNat * 2)).off + 1, none⟩ = some (.int .i64 ((rd_T68 l0 x5_1).f1))) (ds := []) #[false, false, false, false, false, false, false, false, false, false, false, false, false, false] (by kernel_rfl) rfl rfl ⟨((HB.out.cell (zL w _ hw321_0)).trans hw321_0), ((HB.out.cell (zL w _ hw321_1)).trans hw321_1), ((HB.out.cell (zL w _ hw325_0)).trans hw325_0), ((HB.out.cell (zL w _ hw325_1)).trans hw325_1)⟩ (fun hHeld => ?_); refine with_tabW r14_Consts.tab9 r14_Consts.bits9 (fun HT_ HW_ => ?_)
       generalize wr.drew = w11 at HO_4 HB hx321_0 hx321_1 hx325_0 hx325_1 hHeld ⊢
       refine pure_ (i := 0) (N := some 25) (v := ?_) (a' := ?_) #[true, false, false, false, false, false, false, false, false, false, false, false, false, false] rfl rfl (any_of HT_.out (by kernel_rfl)) (fun _ _ _ h => h) (Or.inl ⟨by rfl, ?_⟩) ?_ ?_
       rotate_left
       ·intro w'
        go_simp
        with_reducible rfl
       rotate_left
       ·simp only [Act.put, zY, List.set_cons_zero, z2, i64_w, i32_w]
        rfl
       refine pure_ (i := 1) (N := some 26) (v := ?_) (a' := ?_) #[true, true, false, false, false, false, false, false, false, false, false, false, false, false] rfl rfl (any_of HT_.out (by kernel_rfl)) (fun _ _ _ h => h) (Or.inl ⟨by rfl, ?_⟩) ?_ ?_
       rotate_left
       ·intro w'
        go_simp
        with_reducible rfl
       rotate_left
       ·simp only [Act.put, zY, List.set_cons_zero, z2, i64_w, i32_w]
        rfl
       refine pure_ (i := 2) (N := some 27) (v := ?_) (a' := ?_) #[true, true, true, false, false, false, false, false, false, false, false, false, false, false] rfl rfl (any_of HT_.out (by kernel_rfl)) (fun _ _ _ h => h) (Or.inl ⟨by rfl, ?_⟩) ?_ ?_
       rotate_left
       ·intro w'
        go_simp
        with_reducible rfl
       rotate_left
       ·simp only [Act.put, zY, List.set_cons_zero, z2, i64_w, i32_w]
        rfl
       refine pure_ (i := 3) (N := some 28) (v := ?_) (a' := ?_) #[true, true, true, true, false, false, false, false, false, false, false, false, false, false] rfl rfl (any_of HT_.out (by kernel_rfl)) (fun _ _ _ h => h) (Or.inl ⟨by rfl, ?_⟩) ?_ ?_
       rotate_left
       ·intro w'
        go_simp
        with_reducible rfl
       rotate_left
       ·simp only [Act.put, zY, List.set_cons_zero, z2, i64_w, i32_w]
        rfl
       refine pure_ (i := 4) (N := some 29) (v := ?_) (a' := ?_) #[true, true, true, true, true, false, false, false, false, false, false, false, false, false] rfl rfl (any_of HT_.out (by kernel_rfl)) (fun _ _ _ h => h) (Or.inl ⟨by rfl, ?_⟩) ?_ ?_
       rotate_left
       ·intro w'
        go_simp
        with_reducible rfl
       rotate_left
       ·simp only [Act.put, zY, List.set_cons_zero, z2, i64_w, i32_w]
        rfl
       refine pure_ (i := 7) (N := some 32) (v := ?_) (a' := ?_) #[true, true, true, true, true, false, false, true, false, false, false, false, false, false] rfl rfl (any_of HT_.out (by kernel_rfl)) (fun _ _ _ h => h) (Or.inl ⟨by rfl, ?_⟩) ?_ ?_
       rotate_left
       ·intro w'
        go_simp
        with_reducible rfl
       rotate_left
       ·simp only [Act.put, zY, List.set_cons_zero, z2, i64_w, i32_w]
        rfl
       refine pure_ (i := 8) (N := some 33) (v := ?_) (a' := ?_) #[true, true, true, true, true, false, false, true, true, false, false, false, false, false] rfl rfl (any_of HT_.out (by kernel_rfl)) (fun _ _ _ h => h) (Or.inl ⟨by rfl, ?_⟩) ?_ ?_
       rotate_left
       ·intro w'
        go_simp
        with_reducible rfl
       rotate_left
       ·simp only [Act.put, zY, List.set_cons_zero, z2, i64_w, i32_w]
        rfl
       refine pure_ (i := 9) (N := some 34) (v := ?_) (a' := ?_) #[true, true, true, true, true, false, false, true, true, true, false, false, false, false] rfl rfl (any_of HT_.out (by kernel_rfl)) (fun _ _ _ h => h) (Or.inl ⟨by rfl, ?_⟩) ?_ ?_
       rotate_left
       ·intro w'
        go_simp
        with_reducible rfl
       rotate_left
       ·simp only [Act.put, zY, List.set_cons_zero, z2, i64_w, i32_w]
        rfl
       refine pure_ (i := 10) (N := some 35) (v := ?_) (a' := ?_) #[true, true, true, true, true, false, false, true, true, true, true, false, false, false] rfl rfl (any_of HT_.out (by kernel_rfl)) (fun _ _ _ h => h) (Or.inl ⟨by rfl, ?_⟩) ?_ ?_
       rotate_left
       ·intro w'
        go_simp
        with_reducible rfl
       rotate_left
       ·simp only [Act.put, zY, List.set_cons_zero, z2, i64_w, i32_w]
        rfl
       refine take_ (i := 5) (N := some 30) (v := ?_) (a' := ?_) #[true, true, true, true, true, true, false, true, true, true, true, false, false, false] rfl rfl (take_ofW HT_.out HW_.out (by kernel_rfl)) (fun _ _ _ h => h) (Or.inl ⟨by rfl, ?_⟩) hHeld ?_ ?_
       rotate_left
       ·rintro w' ⟨s0, s1, s2, s3⟩
        go_simp
        with_reducible rfl
       rotate_left
       ·simp only [Act.put, zY, List.set_cons_zero, z2, i64_w, i32_w]
        rfl
       refine take_ (i := 11) (N := some 36) (v := ?_) (a' := ?_) #[true, true, true, true, true, true, false, true, true, true, true, true, false, false] rfl rfl (take_ofW HT_.out HW_.out (by kernel_rfl)) (fun _ _ _ h => h) (Or.inl ⟨by rfl, ?_⟩) hHeld ?_ ?_
       rotate_left
       ·rintro w' ⟨s0, s1, s2, s3⟩
        go_simp
        with_reducible rfl
       rotate_left
       ·simp only [Act.put, zY, List.set_cons_zero, z2, i64_w, i32_w]
        rfl
       refine one_ (i := 6) (N := some 31) #[true, true, true, true, true, true, true, true, true, true, true, true, false, false] rfl rfl (one_of HT_.out (by kernel_rfl)) (by decide) (fun K hK => ?_)
       refine goes_ Tryd.func34 (by kernel_rfl) rfl #[.slice Ao12 x4_1.length co12, .int .i64 1, .int .i64 ((rd_T68 l0 x5_1).f0)] (by rfl) rfl rfl (by (try simp only [zm, zc, zn]); first | done | rfl | (simp only [zd, zt]; rfl)) ?_
       with_reducible refine (r03_Put.calls k1 _ _ x4_1 1 ((rd_T68 l0 x5_1).f0) t322 _ ?side1 ?side2 A9.out).mono ?_
       (case side1 => repeat (first | exact (Kd.R_reads' HO_4.out).2.2))
       (case side2 => exact (Kd.R_reads' HO_4.out).2.1)
       rintro e w13 ⟨v323, rfl, ho0, hb⟩
       refine ⟨_, rfl, ?_⟩
       have HO324 := zA (Kd.R_lower (Kd.R_new' ho0 (Kd.R_lt (by (with_reducible repeat (first | apply zS | apply zT)); exact HO_4.out))) (below_size (by repeat (first | (with_reducible first | exact HB.out | apply zB | apply zN | apply below_drew1) | exact HB.out))))
       replace HO_4 := zA (zK (by (with_reducible repeat (first | apply zS | apply zT)); exact HO_4.out) (zM ho0) hb)
       replace HB := zA (below_step (by repeat (first | (with_reducible first | exact HB.out | apply zB | apply zN | apply below_drew1) | exact HB.out)) hb)
       (try clear hb)
       (try clear hb2)
       (try clear hk)
       (try clear hi)
       (try clear ho0)
       obtain ⟨Ao14, co14, eo14⟩ := Kd.R_slice HO324.out
       (first | subst eo14 | (injection eo14 with f1_ f2_ f3_; have f4_ := f1_.symm; have f5_ := f3_.symm; clear f1_ f2_ f3_; subst f4_; subst f5_))
       refine hK.out _ _ ⟨((HB.out.cell (zL w _ hw321_0)).trans hw321_0), ((HB.out.cell (zL w _ hw321_1)).trans hw321_1), ((HB.out.cell (zL w _ hw325_0)).trans hw325_0), ((HB.out.cell (zL w _ hw325_1)).trans hw325_1)⟩ (fun hHeld => ?_)
       clear hK K
       refine norm_ (a' := ?_) ?_ ?_
       rotate_left
       ·show Act.put _ (some 31) _ = _
        simp only [Act.put, zY, List.set_cons_zero, z2, i64_w, i32_w]
        rfl
       refine one_ (i := 12) (N := some 37) #[true, true, true, true, true, true, true, true, true, true, true, true, true, false] rfl rfl (one_of HT_.out (by kernel_rfl)) (by decide) (fun K hK => ?_)
       refine goes_ Tryd.func34 (by kernel_rfl) rfl #[.slice Ao14 t322.length co14, .int .i64 8, .int .i64 ((rd_T68 l0 x5_1).f1)] (by rfl) rfl rfl (by (try simp only [zm, zc, zn]); first | done | rfl | (simp only [zd, zt]; rfl)) ?_
       with_reducible refine (r03_Put.calls k1 _ _ t322 8 ((rd_T68 l0 x5_1).f1) t326 _ ?side1 ?side2 A10.out).mono ?_
       (case side1 => repeat (first | exact (Kd.R_reads' HO324.out).2.2))
       (case side2 => exact (Kd.R_reads' HO324.out).2.1)
       rintro e w15 ⟨v327, rfl, ho0, hb⟩
       refine ⟨_, rfl, ?_⟩
       have HO328 := zA (Kd.R_lower (Kd.R_new' (Kd.R_new' ho0 (Kd.R_lt (by (with_reducible repeat (first | apply zS | apply zT)); exact HO_4.out))) (Kd.R_lt (by (with_reducible repeat (first | apply zS | apply zT)); exact HO324.out))) (below_size (by repeat (first | (with_reducible first | exact HB.out | apply zB | apply zN | apply below_drew1) | exact HB.out))))
       replace HO_4 := zA (zK (by (with_reducible repeat (first | apply zS | apply zT)); exact HO_4.out) (zM ho0) hb)
       replace HO324 := zA (zK (by (with_reducible repeat (first | apply zS | apply zT)); exact HO324.out) (zM ho0) hb)
       replace HB := zA (below_step (by repeat (first | (with_reducible first | exact HB.out | apply zB | apply zN | apply below_drew1) | exact HB.out)) hb)
       (try clear hb)
       (try clear hb2)
       (try clear hk)
       (try clear hi)
       (try clear ho0)
       refine hK.out _ _ ⟨((HB.out.cell (zL w _ hw321_0)).trans hw321_0), ((HB.out.cell (zL w _ hw321_1)).trans hw321_1), ((HB.out.cell (zL w _ hw325_0)).trans hw325_0), ((HB.out.cell (zL w _ hw325_1)).trans hw325_1)⟩ (fun hHeld => ?_)
       clear hK K
       refine norm_ (a' := ?_) ?_ ?_
       rotate_left
       ·show Act.put _ (some 37) _ = _
        simp only [Act.put, zY, List.set_cons_zero, z2, i64_w, i32_w]
        rfl
       refine pure_ (i := 13) (N := some 4) (v := ?_) (a' := ?_) #[true, true, true, true, true, true, true, true, true, true, true, true, true, true] rfl rfl (any_of HT_.out (by kernel_rfl)) (fun _ _ _ h => h) (Or.inl ⟨by rfl, ?_⟩) ?_ ?_
       rotate_left
       ·intro w'
        go_simp
        with_reducible rfl
       rotate_left
       ·simp only [Act.put, zY, List.set_cons_zero, z2, i64_w, i32_w]
        rfl
       refine done_ (done_of HT_.out (by kernel_rfl)) ?_
       try go_wp2
       go_roundg k1
       case measure => have := HK1.out; omega
       case rel => exact ⟨(t326), (wrap64 (x5_1 + 1)), (by first | rfl | (simp; done) | (simp [*]; done)), H', ⟨by have := HK1.out; omega⟩, ⟨by (with_reducible repeat (first | apply zS | apply zT)); exact Kd.R_mono HO328.out (fun _ hk => trivial)⟩, ⟨by repeat (first | (with_reducible first | exact HB.out | apply zB | apply zN | apply below_drew1) | exact HB.out)⟩⟩
      ·replace c8 := Bool.eq_false_iff.mpr c8
       subst c8
       have H1 : (some (([] : List Int), false)) = some (r1, r2) := by rw [if_neg (show ¬ (false = true) by decide)] at H; exact H
       clear H
       have H := H1
       clear H1
       simp only [Option.some.injEq, Prod.mk.injEq] at H
       obtain ⟨rfl, rfl⟩ := H
       have p319 : 0 ≤ (x5_1 : Int) := zO (by first | (with_reducible assumption) | assumption)
       have q319 : x5_1 < (l0.length : Int) := zO (by first | (with_reducible assumption) | assumption)
       obtain ⟨ad319, e319, hx319_0, hx319_1⟩ := at_T68 HR0.out x5_1 p319 q319
       cases e319
       replace hx319_0 := (HB.out.cell (zL w _ hx319_0)).trans hx319_0
       replace hx319_1 := (HB.out.cell (zL w _ hx319_1)).trans hx319_1
       replace p319 := eq_true p319
       replace q319 := eq_true q319
       go_wp2_with (first | ((with_reducible refine gate_callee (f := 69) rfl ?_); refine goesL_ (some 23) rfl rfl Tryd.func69 (by kernel_rfl) rfl #[.int .i64 ((rd_T68 l0 x5_1).f0)] rfl (by (try simp only [zm, zc, zn]); first | done | rfl | (simp only [zd, zt]; rfl)) ?_; (with_reducible refine (r14_small.calls ((rd_T68 l0 x5_1).f0) false _ A7.out).mono ?_); rintro e w' ⟨rfl, ⟨nd, rfl⟩⟩; refine ⟨_, rfl, ?_⟩))
       go_ret2
       exact ⟨_, by first | rfl | (simp [errW_none, errW_some] <;> rfl) | (simp [*, errW_none, errW_some] <;> rfl), by first | exact Kd.R_nil _ _ _ _ _ | exact Kd.N_nil _ _ _ _ _ | exact Kd.V_nil _ _ _ _ _ | exact Kd.Q_nil _ _ _ _ _ | exact Kd.S_nil _ _ _ _ _, by repeat (first | (with_reducible first | exact HB.out | apply zB | apply zN | apply below_drew1) | exact HB.out)⟩
     ·rw [if_neg c6] at H
      exact absurd H (by simp)
    ·rw [if_neg c5] at H
     have c5b0 : decide (x5_1 < (l0.length : Int)) = false := decide_eq_false c5
     clear c5
     simp only [Option.some.injEq, Prod.mk.injEq] at H
     obtain ⟨rfl, rfl⟩ := H
     go_wp2
     go_ret2
     exact ⟨_, by first | rfl | (simp [errW_none, errW_some] <;> rfl) | (simp [*, errW_none, errW_some] <;> rfl), by (with_reducible repeat (first | apply zS | apply zT)); exact HO_4.out, by repeat (first | (with_reducible first | exact HB.out | apply zB | apply zN | apply below_drew1) | exact HB.out)⟩

/-! ### r03_Text: function 70 -/
mutual
def r03_Text.j0 : Nat → List Int → ByteArray → Option (List Int)
 | 0, _, _ => none
 | k + 1, x0, x1 => (some (([] : List Int) : List Int)).bind fun y329 => (if y329.length + x0.length < 140737488355328 then ((some (y329 ++ x0 : List Int)).bind fun y332 => (if y332.length < 140737488355328 then (r03_Text.l0 k x1 (y332 ++ [((x1.size : Int)) % 256]) 0) else (none))) else (none))
def r03_Text.l0 : Nat → ByteArray → List Int → Int → Option (List Int)
 | 0, _, _, _ => none
 | k + 1, x1, x5, x6 => if x6 < (x1.size : Int) then (if 0 ≤ x6 then (if x5.length < 140737488355328 then (r03_Text.l0 k x1 (x5 ++ [bt x1 x6]) (wrap64 (x6 + 1))) else (none)) else (none)) else (some x5)
end
def r03_Text.f (k : Nat) (l0 : List Int) (a1 : ByteArray) : Option (List Int) := if (a1.size : Int) > 255 then (if 0 ≤ 255 then (if 255 ≤ (a1.size : Int) then (r03_Text.j0 k l0 (a1.extract 0 255)) else (none)) else (none)) else (r03_Text.j0 k l0 a1)
set_option maxHeartbeats 8000000 in
set_option maxRecDepth 100000 in
theorem r03_Text.calls (k : Nat) (A0 : Option Addr) (c0 : Nat) (l0 : List Int) (a1 : ByteArray) (r : List Int) (w : World) (hr0 : Kd.C (Kd.int .u8) w A0 l0.length l0) (hc0 : l0.length ≤ c0) (h : r03_Text.f k l0 a1 = some r) :
  Calls Tryd.prog 70 #[.slice A0 l0.length c0, .string a1] w fun e w' => ∃ v0_ : Value, e = .returned (v0_) ∧ Kd.R (Kd.int .u8) 5 w' w.heap.size (fun _ => True) v0_ r ∧ Below w.heap.size w w' := by
 have HR0 := zA hr0
 have HC0 := zA hc0
 clear hr0 hc0
 have HB := zA (zX w.heap.size w)
 have H : (if (a1.size : Int) > 255 then (if 0 ≤ 255 then (if 255 ≤ (a1.size : Int) then (r03_Text.j0 k l0 (a1.extract 0 255)) else (none)) else (none)) else (r03_Text.j0 k l0 a1)) = some r := h
 clear h
 have HC3 := zA H
 clear H
 go_enter Tryd.func70, Tryd.ntmps70
 go_upto_if 9 with (fail)
 go_cut [1] (fun v1 wc => ∃ (kq : Nat) (x1_2 : ByteArray), v1 = .string x1_2 ∧ Aside0 (r03_Text.j0 kq l0 x1_2 = some r) ∧ Aside0 (kq ≤ k) ∧ Aside0 (Below w.heap.size w wc))
 case first =>
  have H := HC3.out
  clear HC3
  by_cases c4 : (a1.size : Int) > 255
  ·rw [if_pos c4] at H
   have c4b0 : decide (255 < (a1.size : Int)) = true := decide_eq_true c4
   have c4b1 : decide (255 < a1.size) = true := decide_eq_true (by omega)
   clear c4
   (first | rw [c4b0] | (simp only [i64_w, i32_w]; rw [c4b0]) | skip)
   by_cases c5 : 0 ≤ 255
   ·rw [if_pos c5] at H
    have c5b0 := eq_true c5
    have c5b1 : decide (0 ≤ 255) = true := decide_eq_true c5
    clear c5
    by_cases c6 : 255 ≤ (a1.size : Int)
    ·rw [if_pos c6] at H
     have c6b0 := eq_true c6
     have c6b1 : decide (255 ≤ (a1.size : Int)) = true := decide_eq_true c6
     clear c6
     have H' := zA H
     clear H
     go_wp2
     go_meet
     case rel => exact ⟨_, (a1.extract 0 255), (by first | rfl | (simp; done) | (simp [*]; done)), H', ⟨by first | omega | exact z5 _⟩, ⟨by repeat (first | (with_reducible first | exact HB.out | apply zB | apply zN | apply below_drew1) | exact HB.out)⟩⟩
    ·rw [if_neg c6] at H
     exact absurd H (by simp)
   ·rw [if_neg c5] at H
    exact absurd H (by simp)
  ·rw [if_neg c4] at H
   have c4b0 : decide (255 < (a1.size : Int)) = false := decide_eq_false c4
   have c4b1 : decide (255 < a1.size) = false := decide_eq_false (by omega)
   clear c4
   (first | rw [c4b0] | (simp only [i64_w, i32_w]; rw [c4b0]) | skip)
   have H' := zA H
   clear H
   go_wp2
   go_meet
   case rel => exact ⟨_, (a1), (by first | rfl | (simp; done) | (simp [*]; done)), H', ⟨by first | omega | exact z5 _⟩, ⟨by repeat (first | (with_reducible first | exact HB.out | apply zB | apply zN | apply below_drew1) | exact HB.out)⟩⟩
 case rest =>
  clear HC3
  try clear p2
  try clear c4
  try clear c4b0
  try clear c4b1
  try clear c5
  try clear c5b0
  try clear c5b1
  try clear c6
  try clear c6b0
  try clear c6b1
  obtain ⟨kq, x1_2, rfl, HA, HJ2, HB⟩ := hcut
  cases kq with
  | zero => exact absurd HA.out (by simp [r03_Text.j0])
  | succ kj2 =>
   have H := HA.out
   clear HA
   simp only [r03_Text.j0] at H
   obtain ⟨y329, hy329⟩ : ∃ y_ : List Int, y_ = (([] : List Int)) := ⟨_, rfl⟩
   replace H : (if y329.length + l0.length < 140737488355328 then ((some (y329 ++ l0 : List Int)).bind fun y332 => (if y332.length < 140737488355328 then (r03_Text.l0 kj2 x1_2 (y332 ++ [((x1_2.size : Int)) % 256]) 0) else (none))) else (none)) = some r := by first | (rw [hy329]; with_reducible exact H) | (have H2_ := (zP _ _).symm.trans H; rw [hy329]; with_reducible exact H2_) | (have H2_ := (zP _ _).symm.trans H; with_reducible exact H2_) | with_reducible exact H | (rw [hy329]; exact H) | exact H
   have Ny329 := zA hy329
   clear hy329
   by_cases c7 : y329.length + l0.length < 140737488355328
   ·rw [if_pos c7] at H
    have LMc7 := zA c7
    clear c7
    obtain ⟨y332, hy332⟩ : ∃ y_ : List Int, y_ = (y329 ++ l0) := ⟨_, rfl⟩
    replace H : (if y332.length < 140737488355328 then (r03_Text.l0 kj2 x1_2 (y332 ++ [((x1_2.size : Int)) % 256]) 0) else (none)) = some r := by first | (rw [hy332]; with_reducible exact H) | (have H2_ := (zP _ _).symm.trans H; rw [hy332]; with_reducible exact H2_) | (have H2_ := (zP _ _).symm.trans H; with_reducible exact H2_) | with_reducible exact H | (rw [hy332]; exact H) | exact H
    have Ny332 := zA hy332
    clear hy332
    by_cases c8 : y332.length < 140737488355328
    ·rw [if_pos c8] at H
     have LMc8 := zA c8
     clear c8
     obtain ⟨y335, hy335⟩ : ∃ y_ : List Int, y_ = (y332 ++ [((x1_2.size : Int)) % 256]) := ⟨_, rfl⟩
     replace H : (r03_Text.l0 kj2 x1_2 y335 0) = some r := by first | (rw [hy335]; with_reducible exact H) | (have H2_ := (zP _ _).symm.trans H; rw [hy335]; with_reducible exact H2_) | (have H2_ := (zP _ _).symm.trans H; with_reducible exact H2_) | with_reducible exact H | (rw [hy335]; exact H) | exact H
     have Ny335 := zA hy335
     clear hy335
     have H' := zA H
     clear H
     go_wp2_with (first | ((with_reducible refine gate_dst (N := 12) rfl ?_); refine Kd.R_lit (Kd.int .u8) _ 5 ?hg (N := 12) ?hd (xs := ([] : List Int)) (inner := []) (ok := fun _ => True) (okp := fun _ => True) ?hr ?hp (fun _ hk => hk) trivial (zX _ _) (z5 _) (by simp) ?_; (case hd => rfl); (case hg => rfl); (case hr => first | (go_simp; done) | (go_simp; rfl)); (case hp => exact (Reps.none _ _)); intro v330 w9 ho10 hb hg_ hnew_; clear hg_ hnew_; (first | rw [← Ny329.out] at ho10 | (simp only [Int.reduceToNat] at ho10; rw [← Ny329.out] at ho10)); have HO331 := zA (Kd.R_lower ho10 (below_size (by repeat (first | (with_reducible first | exact HB.out | apply zB | apply zN | apply below_drew1) | exact HB.out)))); replace HB := zA (below_step (by repeat (first | (with_reducible first | exact HB.out | apply zB | apply zN | apply below_drew1) | exact HB.out)) hb); clear hb ho10) | ((with_reducible refine gate_builtin (b := .append) (xs := #[.tmp 12, .tmp 13]) rfl ?_); at_builtin; refine Kd.R_append_rows (Kd.int .u8) (w0 := w) w.heap.size rfl (.tmp 12) (.tmp 13) 28 5 (.int .u8 0) 1 rfl Tryd.underlying28 info5 rfl (by decide) (by omega) v330 y329 l0 _ _ _ (fun _ => True) (fun _ => False) rfl rfl ?aO ?aR (fun _ _ h => h) (fun _ h => h.elim) ?aF ?aB ?aS ?aL ?_; (case aR => repeat (first | exact (zD HR0.out HB.out))); (case aB => exact (by repeat (first | (with_reducible first | exact HB.out | apply zB | apply zN | apply below_drew1) | exact HB.out))); (case aF => exact (fun _ _ => trivial)); (case aO => exact (by (with_reducible repeat (first | apply zS | apply zT)); exact HO331.out)); (case aS => exact (below_size (by repeat (first | (with_reducible first | exact HB.out | apply zB | apply zN | apply below_drew1) | exact HB.out)))); (case aL => have := LMc7.out; omega); intro v333 w11 ho hb hg hat; rw [← Ny332.out] at ho; replace HB := zA (hb); have HO334 := zA (ho); clear HO331; clear ho hb hg hat) | ((with_reducible refine gate_builtin (b := .append) (xs := #[.tmp 15, .tmp 19]) rfl ?_); at_builtin; refine Kd.R_append (Kd.int .u8) (w0 := w) w.heap.size rfl (.tmp 15) (.tmp 19) 28 5 (.int .u8 0) 1 rfl Tryd.underlying28 info5 rfl (by decide) (by omega) v333 y332 (((x1_2.size : Int)) % 256) [.int .u8 (((x1_2.size : Int)) % 256)] (fun _ => True) (fun _ => False) rfl rfl ?aP (fun _ hk => hk.elim) ?aF ?aO ?aB ?aS ?aL ?_; (case aP => exact rfl); (case aB => exact (by repeat (first | (with_reducible first | exact HB.out | apply zB | apply zN | apply below_drew1) | exact HB.out))); (case aF => exact (fun _ _ => trivial)); (case aO => exact (by (with_reducible repeat (first | apply zS | apply zT)); exact HO334.out)); (case aS => exact (below_size (by repeat (first | (with_reducible first | exact HB.out | apply zB | apply zN | apply below_drew1) | exact HB.out)))); (case aL => have := LMc8.out; omega); intro v336 w12 ho hb hg hat; rw [← Ny335.out] at ho; replace HB := zA (hb); have HO337 := zA (ho); clear HO334; clear ho hb hg hat))
     go_loopg [5, 6] kj2 (fun kq v5 v6 w' => ∃ (x5_2 : List Int) (x6_2 : Int), v6 = .int .i64 x6_2 ∧ Aside0 (r03_Text.l0 kq x1_2 x5_2 x6_2 = some r) ∧ Aside0 (kq ≤ kj2) ∧ Aside0 (Kd.R (Kd.int .u8) 5 w' w.heap.size (fun _ => True) v5 x5_2) ∧ Aside0 (Below w.heap.size w w'))
     case atStart => exact ⟨(y335), (0), (by first | rfl | (simp; done) | (simp [*]; done)), H', ⟨z5 _⟩, ⟨by (with_reducible repeat (first | apply zS | apply zT)); exact HO337.out⟩, ⟨by repeat (first | (with_reducible first | exact HB.out | apply zB | apply zN | apply below_drew1) | exact HB.out)⟩⟩
     case round =>
      clear H'
      try clear p2
      try clear c4
      try clear c4b0
      try clear c4b1
      try clear c5
      try clear c5b0
      try clear c5b1
      try clear c6
      try clear c6b0
      try clear c6b1
      try clear c7
      try clear c8
      try clear p2
      obtain ⟨x5_2, x6_2, rfl, HA, HK2, HO_5, HB⟩ := hrel
      cases gk with
      | zero => exact absurd HA.out (by simp [r03_Text.l0])
      | succ k2 =>
       have H := HA.out
       clear HA
       simp only [r03_Text.l0] at H
       by_cases c13 : x6_2 < (x1_2.size : Int)
       ·rw [if_pos c13] at H
        have c13b0 : decide (x6_2 < (x1_2.size : Int)) = true := decide_eq_true c13
        clear c13
        by_cases c14 : 0 ≤ x6_2
        ·rw [if_pos c14] at H
         have c14b0 : decide (0 ≤ x6_2) = true := decide_eq_true c14
         clear c14
         by_cases c16 : x5_2.length < 140737488355328
         ·rw [if_pos c16] at H
          have LMc16 := zA c16
          clear c16
          obtain ⟨y338, hy338⟩ : ∃ y_ : List Int, y_ = (x5_2 ++ [bt x1_2 x6_2]) := ⟨_, rfl⟩
          replace H : (r03_Text.l0 k2 x1_2 y338 (wrap64 (x6_2 + 1))) = some r := by first | (rw [hy338]; with_reducible exact H) | (have H2_ := (zP _ _).symm.trans H; rw [hy338]; with_reducible exact H2_) | (have H2_ := (zP _ _).symm.trans H; with_reducible exact H2_) | with_reducible exact H | (rw [hy338]; exact H) | exact H
          have Ny338 := zA hy338
          clear hy338
          have H' := zA H
          clear H
          have p15 : 0 ≤ (x6_2 : Int) := zO (by first | (with_reducible assumption) | assumption)
          have q15 : x6_2 < (x1_2.size : Int) := zO (by first | (with_reducible assumption) | assumption)
          have hx15 := bt_at x1_2 x6_2
          replace p15 := eq_true p15
          replace q15 := eq_true q15
          go_wp2_with (first | ((with_reducible refine gate_builtin (b := .append) (xs := #[.tmp 27, .tmp 31]) rfl ?_); at_builtin; refine Kd.R_append (Kd.int .u8) (w0 := w) w.heap.size rfl (.tmp 27) (.tmp 31) 28 5 (.int .u8 0) 1 rfl Tryd.underlying28 info5 rfl (by decide) (by omega) u5 x5_2 (bt x1_2 x6_2) [.int .u8 (bt x1_2 x6_2)] (fun _ => True) (fun _ => False) rfl rfl ?aP (fun _ hk => hk.elim) ?aF ?aO ?aB ?aS ?aL ?_; (case aP => exact rfl); (case aB => exact (by repeat (first | (with_reducible first | exact HB.out | apply zB | apply zN | apply below_drew1) | exact HB.out))); (case aF => exact (fun _ _ => trivial)); (case aO => exact (by (with_reducible repeat (first | apply zS | apply zT)); exact HO_5.out)); (case aS => exact (below_size (by repeat (first | (with_reducible first | exact HB.out | apply zB | apply zN | apply below_drew1) | exact HB.out)))); (case aL => have := LMc16.out; omega); intro v339 w17 ho hb hg hat; rw [← Ny338.out] at ho; replace HB := zA (hb); have HO340 := zA (ho); clear HO_5; clear ho hb hg hat))
          go_roundg k2
          case measure => have := HJ2.out; have := HK2.out; omega
          case rel => exact ⟨(y338), (wrap64 (x6_2 + 1)), (by first | rfl | (simp; done) | (simp [*]; done)), H', ⟨by have := HJ2.out; have := HK2.out; omega⟩, ⟨by (with_reducible repeat (first | apply zS | apply zT)); exact HO340.out⟩, ⟨by repeat (first | (with_reducible first | exact HB.out | apply zB | apply zN | apply below_drew1) | exact HB.out)⟩⟩
         ·rw [if_neg c16] at H
          exact absurd H (by simp)
        ·rw [if_neg c14] at H
         exact absurd H (by simp)
       ·rw [if_neg c13] at H
        have c13b0 : decide (x6_2 < (x1_2.size : Int)) = false := decide_eq_false c13
        clear c13
        obtain rfl := zJ H
        go_wp2
        go_ret
        exact ⟨_, by first | rfl | (simp [errW_none, errW_some] <;> rfl) | (simp [*, errW_none, errW_some] <;> rfl), by (with_reducible repeat (first | apply zS | apply zT)); exact HO_5.out, by repeat (first | (with_reducible first | exact HB.out | apply zB | apply zN | apply below_drew1) | exact HB.out)⟩
    ·rw [if_neg c8] at H
     exact absurd H (by simp)
   ·rw [if_neg c7] at H
    exact absurd H (by simp)

end Go.Proofs.YtdbfgfgbjheibaaDoor.PBx
end

section
/- Printed by a program of this session (wip/pg.py, over the print of the kit): functions, their Lean twins, and the proofs that the calls come to them; each under the conditions that it names. -/
namespace Go.Proofs.YtdbfgfgbjheibaaDoor.PBx
open Go.RowKit Go.Proofs.YtdbfgfgbjheibaaDoorW.PrintWords Go.Proofs.YtdbfgfgbjheibaaDoorW.PrintLast Go.Proofs.YtdbfgfgbjheibaaDoorW.PrintMore
attribute [local go_sem] max2_int min2_int max_two min_two max_three min_three max_four min_four   -- for this text's walks alone
set_option linter.unusedVariables false
set_option linter.unusedSimpArgs false

/-! ### r14_Vars: function 31 -/
mutual
def r14_Vars.l0 : Nat → List (S41) → List Int → Int → Option (List Int × Bool)
 | 0, _, _, _ => none
 | k + 1, x0, x4, x5 => if x5 < (x0.length : Int) then (if 0 ≤ x5 then (if (((rd_T41 x0 x5).f0).size : Int) > 255 then (r14_Vars.j1 k x0 x4 x5 true ((rd_T41 x0 x5).f0) ((rd_T41 x0 x5).f1) ((rd_T41 x0 x5).f2) ((rd_T41 x0 x5).f3) ((rd_T41 x0 x5).f4)) else ((r14_small.f ((rd_T41 x0 x5).f1)).bind fun t346 => (if t346 = true then ((r14_small.f ((rd_T41 x0 x5).f2)).bind fun t347 => (if t347 = true then ((r14_small.f ((rd_T41 x0 x5).f3)).bind fun t348 => (r14_Vars.j1 k x0 x4 x5 (!t348) ((rd_T41 x0 x5).f0) ((rd_T41 x0 x5).f1) ((rd_T41 x0 x5).f2) ((rd_T41 x0 x5).f3) ((rd_T41 x0 x5).f4))) else (r14_Vars.j1 k x0 x4 x5 true ((rd_T41 x0 x5).f0) ((rd_T41 x0 x5).f1) ((rd_T41 x0 x5).f2) ((rd_T41 x0 x5).f3) ((rd_T41 x0 x5).f4)))) else (r14_Vars.j1 k x0 x4 x5 true ((rd_T41 x0 x5).f0) ((rd_T41 x0 x5).f1) ((rd_T41 x0 x5).f2) ((rd_T41 x0 x5).f3) ((rd_T41 x0 x5).f4))))) else (none)) else (some (x4, true))
def r14_Vars.j1 : Nat → List (S41) → List Int → Int → Bool → ByteArray → Int → Int → Int → Int → Option (List Int × Bool)
 | 0, _, _, _, _, _, _, _, _, _ => none
 | k + 1, x0, x4, x5, x44, x346000, x346001, x346002, x346003, x346004 => if x44 = true then (some (([] : List Int), false)) else ((r03_Text.f k x4 x346000).bind fun t349 => ((some (([(x346001) % 256, (x346002) % 256, (x346003) % 256] : List Int) : List Int)).bind fun y352 => (if t349.length + y352.length < 140737488355328 then ((r03_Put.f k (t349 ++ y352) 8 x346004).bind fun t358 => (r14_Vars.l0 k x0 t358 (wrap64 (x5 + 1)))) else (none))))
end
def r14_Vars.f (k : Nat) (l0 : List (S41)) : Option (List Int × Bool) := if (l0.length : Int) > 64 then (some (([] : List Int), false)) else ((r03_Put.f k ([] : List Int) 2 (l0.length : Int)).bind fun t341 => (r14_Vars.l0 k l0 t341 0))
set_option maxHeartbeats 8000000 in
set_option maxRecDepth 100000 in
theorem r14_Vars.calls (k : Nat) (A0 : Option Addr) (c0 : Nat) (l0 : List (S41)) (r1 : List Int) (r2 : Bool) (w : World) (hr0 : Kd.C k41 w A0 l0.length l0) (hc0 : l0.length ≤ c0) (h : r14_Vars.f k l0 = some (r1, r2)) :
  Calls Tryd.prog 31 #[.slice A0 l0.length c0] w fun e w' => ∃ v0_ : Value, e = .returned (.tuple #[v0_, .bool r2]) ∧ Kd.R (Kd.int .u8) 5 w' w.heap.size (fun _ => True) v0_ r1 ∧ Below w.heap.size w w' := by
 have hu41 := Tryd.underlying41
 have HR0 := zA hr0
 have HC0 := zA hc0
 clear hr0 hc0
 have HB := zA (zX w.heap.size w)
 have H : (if (l0.length : Int) > 64 then (some (([] : List Int), false)) else ((r03_Put.f k ([] : List Int) 2 (l0.length : Int)).bind fun t341 => (r14_Vars.l0 k l0 t341 0))) = some (r1, r2) := h
 clear h
 by_cases c2 : (l0.length : Int) > 64
 ·rw [if_pos c2] at H
  have c2b0 : decide (64 < (l0.length : Int)) = true := decide_eq_true c2
  have c2b1 : decide (64 < l0.length) = true := decide_eq_true (by omega)
  clear c2
  simp only [Option.some.injEq, Prod.mk.injEq] at H
  obtain ⟨rfl, rfl⟩ := H
  go_enter Tryd.func31, Tryd.ntmps31
  go_wp2
  go_ret2
  exact ⟨_, by first | rfl | (simp [errW_none, errW_some] <;> rfl) | (simp [*, errW_none, errW_some] <;> rfl), by first | exact Kd.R_nil _ _ _ _ _ | exact Kd.N_nil _ _ _ _ _ | exact Kd.V_nil _ _ _ _ _ | exact Kd.Q_nil _ _ _ _ _ | exact Kd.S_nil _ _ _ _ _, by repeat (first | (with_reducible first | exact HB.out | apply zB | apply zN | apply below_drew1) | exact HB.out)⟩
 ·rw [if_neg c2] at H
  have c2b0 : decide (64 < (l0.length : Int)) = false := decide_eq_false c2
  have c2b1 : decide (64 < l0.length) = false := decide_eq_false (by omega)
  clear c2
  replace H := Option.bind_eq_some_iff.mp H
  obtain ⟨t341, A30, H⟩ := H
  replace H : (r14_Vars.l0 k l0 t341 0) = some (r1, r2) := H
  have A3 := zA A30
  clear A30
  have H' := zA H
  clear H
  go_enter Tryd.func31, Tryd.ntmps31
  go_wp2_with (first | ((with_reducible refine gate_callee (f := 34) rfl ?_); refine goesL_ (some 12) rfl rfl Tryd.func34 (by kernel_rfl) rfl #[.slice none 0 0, .int .i64 2, .int .i64 (l0.length : Int)] rfl (by (try simp only [zm, zc, zn]); first | done | rfl | (simp only [zd, zt]; rfl)) ?_; (refine (r03_Put.calls k _ _ ([] : List Int) 2 (l0.length : Int) t341 _ ?side1 ?side2 A3.out).mono ?_); (case side1 => exact Kd.C_nil _ _); (case side2 => exact z5 _); rintro e w4 ⟨v342, rfl, ho0, hb⟩; refine ⟨_, rfl, ?_⟩; have HO343 := zA (Kd.R_lower ho0 (below_size (by repeat (first | (with_reducible first | exact HB.out | apply zB | apply zN | apply below_drew1) | exact HB.out)))); replace HB := zA (below_step (by repeat (first | (with_reducible first | exact HB.out | apply zB | apply zN | apply below_drew1) | exact HB.out)) hb); (try clear hb); (try clear hb2); (try clear hk); (try clear hi); (try clear ho0)))
  go_loopg [4, 5] k (fun kq v4 v5 w' => ∃ (x4_1 : List Int) (x5_1 : Int), v5 = .int .i64 x5_1 ∧ Aside0 (r14_Vars.l0 kq l0 x4_1 x5_1 = some (r1, r2)) ∧ Aside0 (kq ≤ k) ∧ Aside0 (Kd.R (Kd.int .u8) 5 w' w.heap.size (fun _ => True) v4 x4_1) ∧ Aside0 (Below w.heap.size w w'))
  case atStart => exact ⟨(t341), (0), (by first | rfl | (simp; done) | (simp [*]; done)), H', ⟨z5 _⟩, ⟨by (with_reducible repeat (first | apply zS | apply zT)); exact HO343.out⟩, ⟨by repeat (first | (with_reducible first | exact HB.out | apply zB | apply zN | apply below_drew1) | exact HB.out)⟩⟩
  case round =>
   clear H'
   try clear c2
   try clear c2b0
   try clear c2b1
   try clear p2
   try clear c3
   obtain ⟨x4_1, x5_1, rfl, HA, HK1, HO_4, HB⟩ := hrel
   cases gk with
   | zero => exact absurd HA.out (by simp [r14_Vars.l0])
   | succ k1 =>
    have H := HA.out
    clear HA
    simp only [r14_Vars.l0] at H
    by_cases c5 : x5_1 < (l0.length : Int)
    ·rw [if_pos c5] at H
     have c5b0 : decide (x5_1 < (l0.length : Int)) = true := decide_eq_true c5
     clear c5
     by_cases c6 : 0 ≤ x5_1
     ·rw [if_pos c6] at H
      have c6b0 : decide (0 ≤ x5_1) = true := decide_eq_true c6
      clear c6
      have HC7 := zA H
      clear H
      have p344 : 0 ≤ (x5_1 : Int) := zO (by first | (with_reducible assumption) | assumption)
      have q344 : x5_1 < (l0.length : Int) := zO (by first | (with_reducible assumption) | assumption)
      obtain ⟨ad344, e344, hx344_0, hx344_1, hx344_2, hx344_3, hx344_4⟩ := at_T41 HR0.out x5_1 p344 q344
      cases e344
      replace hx344_0 := (HB.out.cell (zL w _ hx344_0)).trans hx344_0
      replace hx344_1 := (HB.out.cell (zL w _ hx344_1)).trans hx344_1
      replace hx344_2 := (HB.out.cell (zL w _ hx344_2)).trans hx344_2
      replace hx344_3 := (HB.out.cell (zL w _ hx344_3)).trans hx344_3
      replace hx344_4 := (HB.out.cell (zL w _ hx344_4)).trans hx344_4
      replace p344 := eq_true p344
      replace q344 := eq_true q344
      go_upto_region 8 with (first | ((with_reducible refine gate_dst (N := 6) rfl ?_); refine box_event ?hg (N := 6) ?hd (cs := #[.string (⟨#[]⟩ : ByteArray), .int .i64 0, .int .i64 0, .int .i64 0, .int .i64 0]) (t := 41) ?hr ?_; (case hd => rfl); (case hg => rfl); (case hr => first | (go_simp; done) | (go_simp; rfl)); intro gb345 hg w8 hbox hb; replace HO_4 := zA (Kd.R_below (by (with_reducible repeat (first | apply zS | apply zT)); exact HO_4.out) hb); have BK345 := zA (hbox); have GW345 := zA ((by rw [hg]; exact (below_size (by repeat (first | (with_reducible first | exact HB.out | apply zB | apply zN | apply below_drew1) | exact HB.out))) : w.heap.size ≤ gb345)); have GE345 := GW345; replace HB := zA (below_step (by repeat (first | (with_reducible first | exact HB.out | apply zB | apply zN | apply below_drew1) | exact HB.out)) hb); clear hb hbox hg; have hcz9_0 : w8.cell? ⟨gb345, 0, none⟩ = some (.string (⟨#[]⟩ : ByteArray)) := (zC BK345.out 0).trans rfl; have hcz9_1 : w8.cell? ⟨gb345, 1, none⟩ = some (.int .i64 0) := (zC BK345.out 1).trans rfl; have hcz9_2 : w8.cell? ⟨gb345, 2, none⟩ = some (.int .i64 0) := (zC BK345.out 2).trans rfl; have hcz9_3 : w8.cell? ⟨gb345, 3, none⟩ = some (.int .i64 0) := (zC BK345.out 3).trans rfl; have hcz9_4 : w8.cell? ⟨gb345, 4, none⟩ = some (.int .i64 0) := (zC BK345.out 4).trans rfl; have hfz9_0 := zF BK345.out 0; have hfz9_1 := zF BK345.out 1; have hfz9_2 := zF BK345.out 2; have hfz9_3 := zF BK345.out 3; have hfz9_4 := zF BK345.out 4))
      (try simp only [Act.put, zY, List.set_cons_zero, z2])
      go_cut [44] (fun v44 wc => ∃ (kq : Nat) (x44_6 : Bool), v44 = .bool x44_6 ∧ Aside0 (r14_Vars.j1 kq l0 x4_1 x5_1 x44_6 ((rd_T41 l0 x5_1).f0) ((rd_T41 l0 x5_1).f1) ((rd_T41 l0 x5_1).f2) ((rd_T41 l0 x5_1).f3) ((rd_T41 l0 x5_1).f4) = some (r1, r2)) ∧ Aside0 (kq ≤ k1) ∧ Aside0 (Kd.R (Kd.int .u8) 5 wc w.heap.size (fun _ => True) u4 x4_1) ∧ Aside0 (wc.heap[gb345]? = some (.cells #[.string ((rd_T41 l0 x5_1).f0), .int .i64 ((rd_T41 l0 x5_1).f1), .int .i64 ((rd_T41 l0 x5_1).f2), .int .i64 ((rd_T41 l0 x5_1).f3), .int .i64 ((rd_T41 l0 x5_1).f4)] 41 (0, 0))) ∧ Aside0 (Below w.heap.size w wc))
      case first =>
       have H := HC7.out
       clear HC7
       by_cases c10 : (((rd_T41 l0 x5_1).f0).size : Int) > 255
       ·rw [if_pos c10] at H
        have c10b0 : decide (255 < (((rd_T41 l0 x5_1).f0).size : Int)) = true := decide_eq_true c10
        have c10b1 : decide (255 < ((rd_T41 l0 x5_1).f0).size) = true := decide_eq_true (by omega)
        clear c10
        (first | rw [c10b0] | (simp only [i64_w, i32_w]; rw [c10b0]) | skip)
        have H' := zA H
        clear H
        have hcz11_0 : w8.cell? ⟨gb345, 0, none⟩ = some (.string (⟨#[]⟩ : ByteArray)) := (zC BK345.out 0).trans rfl
        have hcz11_1 : w8.cell? ⟨gb345, 1, none⟩ = some (.int .i64 0) := (zC BK345.out 1).trans rfl
        have hcz11_2 : w8.cell? ⟨gb345, 2, none⟩ = some (.int .i64 0) := (zC BK345.out 2).trans rfl
        have hcz11_3 : w8.cell? ⟨gb345, 3, none⟩ = some (.int .i64 0) := (zC BK345.out 3).trans rfl
        have hcz11_4 : w8.cell? ⟨gb345, 4, none⟩ = some (.int .i64 0) := (zC BK345.out 4).trans rfl
        have hfz11_0 := zF BK345.out 0
        have hfz11_1 := zF BK345.out 1
        have hfz11_2 := zF BK345.out 2
        have hfz11_3 := zF BK345.out 3
        have hfz11_4 := zF BK345.out 4
        go_wp2
        go_meet
        case rel => exact ⟨_, (true), (by first | rfl | (simp; done) | (simp [*]; done)), H', ⟨by have := HK1.out; first | omega | exact z5 _⟩, ⟨by (with_reducible repeat (first | apply zS | apply zT)); exact Kd.R_mono (Kd.R_far (p := ⟨gb345, 4, none⟩) (Kd.R_far (p := ⟨gb345, 3, none⟩) (Kd.R_far (p := ⟨gb345, 2, none⟩) (Kd.R_far (p := ⟨gb345, 1, none⟩) (Kd.R_far (p := ⟨gb345, 0, none⟩) (Kd.R_types HO_4.out BK345.out (by decide)) (fun _ hk => hk.2) (.string ((rd_T41 l0 x5_1).f0))) (fun _ hk => hk.2) (.int .i64 ((rd_T41 l0 x5_1).f1))) (fun _ hk => hk.2) (.int .i64 ((rd_T41 l0 x5_1).f2))) (fun _ hk => hk.2) (.int .i64 ((rd_T41 l0 x5_1).f3))) (fun _ hk => hk.2) (.int .i64 ((rd_T41 l0 x5_1).f4))) (fun _ hk => trivial)⟩, ⟨by (with_reducible repeat (first | refine zG ?_ _ | refine zH ?_)); refine blk_put (cs := #[.string ((rd_T41 l0 x5_1).f0), .int .i64 ((rd_T41 l0 x5_1).f1), .int .i64 ((rd_T41 l0 x5_1).f2), .int .i64 ((rd_T41 l0 x5_1).f3), .int .i64 0]) ?_ 4 _ rfl; (with_reducible repeat (first | refine zG ?_ _ | refine zH ?_)); refine blk_put (cs := #[.string ((rd_T41 l0 x5_1).f0), .int .i64 ((rd_T41 l0 x5_1).f1), .int .i64 ((rd_T41 l0 x5_1).f2), .int .i64 0, .int .i64 0]) ?_ 3 _ rfl; (with_reducible repeat (first | refine zG ?_ _ | refine zH ?_)); refine blk_put (cs := #[.string ((rd_T41 l0 x5_1).f0), .int .i64 ((rd_T41 l0 x5_1).f1), .int .i64 0, .int .i64 0, .int .i64 0]) ?_ 2 _ rfl; (with_reducible repeat (first | refine zG ?_ _ | refine zH ?_)); refine blk_put (cs := #[.string ((rd_T41 l0 x5_1).f0), .int .i64 0, .int .i64 0, .int .i64 0, .int .i64 0]) ?_ 1 _ rfl; (with_reducible repeat (first | refine zG ?_ _ | refine zH ?_)); refine blk_put (cs := #[.string (⟨#[]⟩ : ByteArray), .int .i64 0, .int .i64 0, .int .i64 0, .int .i64 0]) ?_ 0 _ rfl; (with_reducible repeat (first | refine zG ?_ _ | refine zH ?_)); exact BK345.out⟩, ⟨by repeat (first | (with_reducible first | exact HB.out | apply zB | apply zN | apply below_drew1 | refine zE ?_ GE345.out) | exact HB.out)⟩⟩
       ·rw [if_neg c10] at H
        have c10b0 : decide (255 < (((rd_T41 l0 x5_1).f0).size : Int)) = false := decide_eq_false c10
        have c10b1 : decide (255 < ((rd_T41 l0 x5_1).f0).size) = false := decide_eq_false (by omega)
        clear c10
        (first | rw [c10b0] | (simp only [i64_w, i32_w]; rw [c10b0]) | skip)
        replace H := Option.bind_eq_some_iff.mp H
        obtain ⟨t346, A120, H⟩ := H
        replace H : (if t346 = true then ((r14_small.f ((rd_T41 l0 x5_1).f2)).bind fun t347 => (if t347 = true then ((r14_small.f ((rd_T41 l0 x5_1).f3)).bind fun t348 => (r14_Vars.j1 k1 l0 x4_1 x5_1 (!t348) ((rd_T41 l0 x5_1).f0) ((rd_T41 l0 x5_1).f1) ((rd_T41 l0 x5_1).f2) ((rd_T41 l0 x5_1).f3) ((rd_T41 l0 x5_1).f4))) else (r14_Vars.j1 k1 l0 x4_1 x5_1 true ((rd_T41 l0 x5_1).f0) ((rd_T41 l0 x5_1).f1) ((rd_T41 l0 x5_1).f2) ((rd_T41 l0 x5_1).f3) ((rd_T41 l0 x5_1).f4)))) else (r14_Vars.j1 k1 l0 x4_1 x5_1 true ((rd_T41 l0 x5_1).f0) ((rd_T41 l0 x5_1).f1) ((rd_T41 l0 x5_1).f2) ((rd_T41 l0 x5_1).f3) ((rd_T41 l0 x5_1).f4))) = some (r1, r2) := H
        have A12 := zA A120
        clear A120
        by_cases c13 : t346 = true
        ·subst c13
         have H1 : ((r14_small.f ((rd_T41 l0 x5_1).f2)).bind fun t347 => (if t347 = true then ((r14_small.f ((rd_T41 l0 x5_1).f3)).bind fun t348 => (r14_Vars.j1 k1 l0 x4_1 x5_1 (!t348) ((rd_T41 l0 x5_1).f0) ((rd_T41 l0 x5_1).f1) ((rd_T41 l0 x5_1).f2) ((rd_T41 l0 x5_1).f3) ((rd_T41 l0 x5_1).f4))) else (r14_Vars.j1 k1 l0 x4_1 x5_1 true ((rd_T41 l0 x5_1).f0) ((rd_T41 l0 x5_1).f1) ((rd_T41 l0 x5_1).f2) ((rd_T41 l0 x5_1).f3) ((rd_T41 l0 x5_1).f4)))) = some (r1, r2) := by rw [if_pos rfl] at H; exact H
         clear H
         have H := H1
         clear H1
         replace H := Option.bind_eq_some_iff.mp H
         obtain ⟨t347, A140, H⟩ := H
         replace H : (if t347 = true then ((r14_small.f ((rd_T41 l0 x5_1).f3)).bind fun t348 => (r14_Vars.j1 k1 l0 x4_1 x5_1 (!t348) ((rd_T41 l0 x5_1).f0) ((rd_T41 l0 x5_1).f1) ((rd_T41 l0 x5_1).f2) ((rd_T41 l0 x5_1).f3) ((rd_T41 l0 x5_1).f4))) else (r14_Vars.j1 k1 l0 x4_1 x5_1 true ((rd_T41 l0 x5_1).f0) ((rd_T41 l0 x5_1).f1) ((rd_T41 l0 x5_1).f2) ((rd_T41 l0 x5_1).f3) ((rd_T41 l0 x5_1).f4))) = some (r1, r2) := H
         have A14 := zA A140
         clear A140
         by_cases c15 : t347 = true
         ·subst c15
          have H1 : ((r14_small.f ((rd_T41 l0 x5_1).f3)).bind fun t348 => (r14_Vars.j1 k1 l0 x4_1 x5_1 (!t348) ((rd_T41 l0 x5_1).f0) ((rd_T41 l0 x5_1).f1) ((rd_T41 l0 x5_1).f2) ((rd_T41 l0 x5_1).f3) ((rd_T41 l0 x5_1).f4))) = some (r1, r2) := by rw [if_pos rfl] at H; exact H
          clear H
          have H := H1
          clear H1
          replace H := Option.bind_eq_some_iff.mp H
          obtain ⟨t348, A160, H⟩ := H
          replace H : (r14_Vars.j1 k1 l0 x4_1 x5_1 (!t348) ((rd_T41 l0 x5_1).f0) ((rd_T41 l0 x5_1).f1) ((rd_T41 l0 x5_1).f2) ((rd_T41 l0 x5_1).f3) ((rd_T41 l0 x5_1).f4)) = some (r1, r2) := H
          have A16 := zA A160
          clear A160
          have H' := zA H
          clear H
          have hcz17_0 : w8.cell? ⟨gb345, 0, none⟩ = some (.string (⟨#[]⟩ : ByteArray)) := (zC BK345.out 0).trans rfl
          have hcz17_1 : w8.cell? ⟨gb345, 1, none⟩ = some (.int .i64 0) := (zC BK345.out 1).trans rfl
          have hcz17_2 : w8.cell? ⟨gb345, 2, none⟩ = some (.int .i64 0) := (zC BK345.out 2).trans rfl
          have hcz17_3 : w8.cell? ⟨gb345, 3, none⟩ = some (.int .i64 0) := (zC BK345.out 3).trans rfl
          have hcz17_4 : w8.cell? ⟨gb345, 4, none⟩ = some (.int .i64 0) := (zC BK345.out 4).trans rfl
          have hfz17_0 := zF BK345.out 0
          have hfz17_1 := zF BK345.out 1
          have hfz17_2 := zF BK345.out 2
          have hfz17_3 := zF BK345.out 3
          have hfz17_4 := zF BK345.out 4
          go_wp2_with (first | (go_at_call 69; (with_reducible refine (r14_small.calls ((rd_T41 l0 x5_1).f1) true _ A12.out).mono ?_); rintro e w' ⟨rfl, ⟨nd, rfl⟩⟩) | (go_at_call 69; (with_reducible refine (r14_small.calls ((rd_T41 l0 x5_1).f2) true _ A14.out).mono ?_); rintro e w' ⟨rfl, ⟨nd, rfl⟩⟩) | (go_at_call 69; (with_reducible refine (r14_small.calls ((rd_T41 l0 x5_1).f3) t348 _ A16.out).mono ?_); rintro e w' ⟨rfl, ⟨nd, rfl⟩⟩))
          go_meet
          case rel => exact ⟨_, (!t348), (by first | rfl | (simp; done) | (simp [*]; done)), H', ⟨by have := HK1.out; first | omega | exact z5 _⟩, ⟨by (with_reducible repeat (first | apply zS | apply zT)); exact Kd.R_mono (Kd.R_far (p := ⟨gb345, 4, none⟩) (Kd.R_far (p := ⟨gb345, 3, none⟩) (Kd.R_far (p := ⟨gb345, 2, none⟩) (Kd.R_far (p := ⟨gb345, 1, none⟩) (Kd.R_far (p := ⟨gb345, 0, none⟩) (Kd.R_types HO_4.out BK345.out (by decide)) (fun _ hk => hk.2) (.string ((rd_T41 l0 x5_1).f0))) (fun _ hk => hk.2) (.int .i64 ((rd_T41 l0 x5_1).f1))) (fun _ hk => hk.2) (.int .i64 ((rd_T41 l0 x5_1).f2))) (fun _ hk => hk.2) (.int .i64 ((rd_T41 l0 x5_1).f3))) (fun _ hk => hk.2) (.int .i64 ((rd_T41 l0 x5_1).f4))) (fun _ hk => trivial)⟩, ⟨by (with_reducible repeat (first | refine zG ?_ _ | refine zH ?_)); refine blk_put (cs := #[.string ((rd_T41 l0 x5_1).f0), .int .i64 ((rd_T41 l0 x5_1).f1), .int .i64 ((rd_T41 l0 x5_1).f2), .int .i64 ((rd_T41 l0 x5_1).f3), .int .i64 0]) ?_ 4 _ rfl; (with_reducible repeat (first | refine zG ?_ _ | refine zH ?_)); refine blk_put (cs := #[.string ((rd_T41 l0 x5_1).f0), .int .i64 ((rd_T41 l0 x5_1).f1), .int .i64 ((rd_T41 l0 x5_1).f2), .int .i64 0, .int .i64 0]) ?_ 3 _ rfl; (with_reducible repeat (first | refine zG ?_ _ | refine zH ?_)); refine blk_put (cs := #[.string ((rd_T41 l0 x5_1).f0), .int .i64 ((rd_T41 l0 x5_1).f1), .int .i64 0, .int .i64 0, .int .i64 0]) ?_ 2 _ rfl; (with_reducible repeat (first | refine zG ?_ _ | refine zH ?_)); refine blk_put (cs := #[.string ((rd_T41 l0 x5_1).f0), .int .i64 0, .int .i64 0, .int .i64 0, .int .i64 0]) ?_ 1 _ rfl; (with_reducible repeat (first | refine zG ?_ _ | refine zH ?_)); refine blk_put (cs := #[.string (⟨#[]⟩ : ByteArray), .int .i64 0, .int .i64 0, .int .i64 0, .int .i64 0]) ?_ 0 _ rfl; (with_reducible repeat (first | refine zG ?_ _ | refine zH ?_)); exact BK345.out⟩, ⟨by repeat (first | (with_reducible first | exact HB.out | apply zB | apply zN | apply below_drew1 | refine zE ?_ GE345.out) | exact HB.out)⟩⟩
         ·replace c15 := Bool.eq_false_iff.mpr c15
          subst c15
          have H1 : (r14_Vars.j1 k1 l0 x4_1 x5_1 true ((rd_T41 l0 x5_1).f0) ((rd_T41 l0 x5_1).f1) ((rd_T41 l0 x5_1).f2) ((rd_T41 l0 x5_1).f3) ((rd_T41 l0 x5_1).f4)) = some (r1, r2) := by rw [if_neg (show ¬ (false = true) by decide)] at H; exact H
          clear H
          have H := H1
          clear H1
          have H' := zA H
          clear H
          have hcz18_0 : w8.cell? ⟨gb345, 0, none⟩ = some (.string (⟨#[]⟩ : ByteArray)) := (zC BK345.out 0).trans rfl
          have hcz18_1 : w8.cell? ⟨gb345, 1, none⟩ = some (.int .i64 0) := (zC BK345.out 1).trans rfl
          have hcz18_2 : w8.cell? ⟨gb345, 2, none⟩ = some (.int .i64 0) := (zC BK345.out 2).trans rfl
          have hcz18_3 : w8.cell? ⟨gb345, 3, none⟩ = some (.int .i64 0) := (zC BK345.out 3).trans rfl
          have hcz18_4 : w8.cell? ⟨gb345, 4, none⟩ = some (.int .i64 0) := (zC BK345.out 4).trans rfl
          have hfz18_0 := zF BK345.out 0
          have hfz18_1 := zF BK345.out 1
          have hfz18_2 := zF BK345.out 2
          have hfz18_3 := zF BK345.out 3
          have hfz18_4 := zF BK345.out 4
          go_wp2_with (first | (go_at_call 69; (with_reducible refine (r14_small.calls ((rd_T41 l0 x5_1).f1) true _ A12.out).mono ?_); rintro e w' ⟨rfl, ⟨nd, rfl⟩⟩) | (go_at_call 69; (with_reducible refine (r14_small.calls ((rd_T41 l0 x5_1).f2) false _ A14.out).mono ?_); rintro e w' ⟨rfl, ⟨nd, rfl⟩⟩))
          go_meet
          case rel => exact ⟨_, (true), (by first | rfl | (simp; done) | (simp [*]; done)), H', ⟨by have := HK1.out; first | omega | exact z5 _⟩, ⟨by (with_reducible repeat (first | apply zS | apply zT)); exact Kd.R_mono (Kd.R_far (p := ⟨gb345, 4, none⟩) (Kd.R_far (p := ⟨gb345, 3, none⟩) (Kd.R_far (p := ⟨gb345, 2, none⟩) (Kd.R_far (p := ⟨gb345, 1, none⟩) (Kd.R_far (p := ⟨gb345, 0, none⟩) (Kd.R_types HO_4.out BK345.out (by decide)) (fun _ hk => hk.2) (.string ((rd_T41 l0 x5_1).f0))) (fun _ hk => hk.2) (.int .i64 ((rd_T41 l0 x5_1).f1))) (fun _ hk => hk.2) (.int .i64 ((rd_T41 l0 x5_1).f2))) (fun _ hk => hk.2) (.int .i64 ((rd_T41 l0 x5_1).f3))) (fun _ hk => hk.2) (.int .i64 ((rd_T41 l0 x5_1).f4))) (fun _ hk => trivial)⟩, ⟨by (with_reducible repeat (first | refine zG ?_ _ | refine zH ?_)); refine blk_put (cs := #[.string ((rd_T41 l0 x5_1).f0), .int .i64 ((rd_T41 l0 x5_1).f1), .int .i64 ((rd_T41 l0 x5_1).f2), .int .i64 ((rd_T41 l0 x5_1).f3), .int .i64 0]) ?_ 4 _ rfl; (with_reducible repeat (first | refine zG ?_ _ | refine zH ?_)); refine blk_put (cs := #[.string ((rd_T41 l0 x5_1).f0), .int .i64 ((rd_T41 l0 x5_1).f1), .int .i64 ((rd_T41 l0 x5_1).f2), .int .i64 0, .int .i64 0]) ?_ 3 _ rfl; (with_reducible repeat (first | refine zG ?_ _ | refine zH ?_)); refine blk_put (cs := #[.string ((rd_T41 l0 x5_1).f0), .int .i64 ((rd_T41 l0 x5_1).f1), .int .i64 0, .int .i64 0, .int .i64 0]) ?_ 2 _ rfl; (with_reducible repeat (first | refine zG ?_ _ | refine zH ?_)); refine blk_put (cs := #[.string ((rd_T41 l0 x5_1).f0), .int .i64 0, .int .i64 0, .int .i64 0, .int .i64 0]) ?_ 1 _ rfl; (with_reducible repeat (first | refine zG ?_ _ | refine zH ?_)); refine blk_put (cs := #[.string (⟨#[]⟩ : ByteArray), .int .i64 0, .int .i64 0, .int .i64 0, .int .i64 0]) ?_ 0 _ rfl; (with_reducible repeat (first | refine zG ?_ _ | refine zH ?_)); exact BK345.out⟩, ⟨by repeat (first | (with_reducible first | exact HB.out | apply zB | apply zN | apply below_drew1 | refine zE ?_ GE345.out) | exact HB.out)⟩⟩
        ·replace c13 := Bool.eq_false_iff.mpr c13
         subst c13
         have H1 : (r14_Vars.j1 k1 l0 x4_1 x5_1 true ((rd_T41 l0 x5_1).f0) ((rd_T41 l0 x5_1).f1) ((rd_T41 l0 x5_1).f2) ((rd_T41 l0 x5_1).f3) ((rd_T41 l0 x5_1).f4)) = some (r1, r2) := by rw [if_neg (show ¬ (false = true) by decide)] at H; exact H
         clear H
         have H := H1
         clear H1
         have H' := zA H
         clear H
         have hcz19_0 : w8.cell? ⟨gb345, 0, none⟩ = some (.string (⟨#[]⟩ : ByteArray)) := (zC BK345.out 0).trans rfl
         have hcz19_1 : w8.cell? ⟨gb345, 1, none⟩ = some (.int .i64 0) := (zC BK345.out 1).trans rfl
         have hcz19_2 : w8.cell? ⟨gb345, 2, none⟩ = some (.int .i64 0) := (zC BK345.out 2).trans rfl
         have hcz19_3 : w8.cell? ⟨gb345, 3, none⟩ = some (.int .i64 0) := (zC BK345.out 3).trans rfl
         have hcz19_4 : w8.cell? ⟨gb345, 4, none⟩ = some (.int .i64 0) := (zC BK345.out 4).trans rfl
         have hfz19_0 := zF BK345.out 0
         have hfz19_1 := zF BK345.out 1
         have hfz19_2 := zF BK345.out 2
         have hfz19_3 := zF BK345.out 3
         have hfz19_4 := zF BK345.out 4
         go_wp2_with (first | (go_at_call 69; (with_reducible refine (r14_small.calls ((rd_T41 l0 x5_1).f1) false _ A12.out).mono ?_); rintro e w' ⟨rfl, ⟨nd, rfl⟩⟩))
         go_meet
         case rel => exact ⟨_, (true), (by first | rfl | (simp; done) | (simp [*]; done)), H', ⟨by have := HK1.out; first | omega | exact z5 _⟩, ⟨by (with_reducible repeat (first | apply zS | apply zT)); exact Kd.R_mono (Kd.R_far (p := ⟨gb345, 4, none⟩) (Kd.R_far (p := ⟨gb345, 3, none⟩) (Kd.R_far (p := ⟨gb345, 2, none⟩) (Kd.R_far (p := ⟨gb345, 1, none⟩) (Kd.R_far (p := ⟨gb345, 0, none⟩) (Kd.R_types HO_4.out BK345.out (by decide)) (fun _ hk => hk.2) (.string ((rd_T41 l0 x5_1).f0))) (fun _ hk => hk.2) (.int .i64 ((rd_T41 l0 x5_1).f1))) (fun _ hk => hk.2) (.int .i64 ((rd_T41 l0 x5_1).f2))) (fun _ hk => hk.2) (.int .i64 ((rd_T41 l0 x5_1).f3))) (fun _ hk => hk.2) (.int .i64 ((rd_T41 l0 x5_1).f4))) (fun _ hk => trivial)⟩, ⟨by (with_reducible repeat (first | refine zG ?_ _ | refine zH ?_)); refine blk_put (cs := #[.string ((rd_T41 l0 x5_1).f0), .int .i64 ((rd_T41 l0 x5_1).f1), .int .i64 ((rd_T41 l0 x5_1).f2), .int .i64 ((rd_T41 l0 x5_1).f3), .int .i64 0]) ?_ 4 _ rfl; (with_reducible repeat (first | refine zG ?_ _ | refine zH ?_)); refine blk_put (cs := #[.string ((rd_T41 l0 x5_1).f0), .int .i64 ((rd_T41 l0 x5_1).f1), .int .i64 ((rd_T41 l0 x5_1).f2), .int .i64 0, .int .i64 0]) ?_ 3 _ rfl; (with_reducible repeat (first | refine zG ?_ _ | refine zH ?_)); refine blk_put (cs := #[.string ((rd_T41 l0 x5_1).f0), .int .i64 ((rd_T41 l0 x5_1).f1), .int .i64 0, .int .i64 0, .int .i64 0]) ?_ 2 _ rfl; (with_reducible repeat (first | refine zG ?_ _ | refine zH ?_)); refine blk_put (cs := #[.string ((rd_T41 l0 x5_1).f0), .int .i64 0, .int .i64 0, .int .i64 0, .int .i64 0]) ?_ 1 _ rfl; (with_reducible repeat (first | refine zG ?_ _ | refine zH ?_)); refine blk_put (cs := #[.string (⟨#[]⟩ : ByteArray), .int .i64 0, .int .i64 0, .int .i64 0, .int .i64 0]) ?_ 0 _ rfl; (with_reducible repeat (first | refine zG ?_ _ | refine zH ?_)); exact BK345.out⟩, ⟨by repeat (first | (with_reducible first | exact HB.out | apply zB | apply zN | apply below_drew1 | refine zE ?_ GE345.out) | exact HB.out)⟩⟩
      case rest =>
       clear HC7
       try clear c1
       try clear c2
       try clear c2b0
       try clear c2b1
       try clear p2
       try clear c3
       try clear p3
       try clear q3
       try clear hx3
       try clear c5
       try clear c5b0
       try clear c6
       try clear c6b0
       try clear c10
       try clear c10b0
       try clear c10b1
       try clear c13
       try clear c15
       try clear hcz11_0
       try clear hcz11_1
       try clear hcz11_2
       try clear hcz11_3
       try clear hcz11_4
       try clear hcz17_0
       try clear hcz17_1
       try clear hcz17_2
       try clear hcz17_3
       try clear hcz17_4
       try clear hcz18_0
       try clear hcz18_1
       try clear hcz18_2
       try clear hcz18_3
       try clear hcz18_4
       try clear hcz19_0
       try clear hcz19_1
       try clear hcz19_2
       try clear hcz19_3
       try clear hcz19_4
       try clear hcz9_0
       try clear hcz9_1
       try clear hcz9_2
       try clear hcz9_3
       try clear hcz9_4
       try clear hfz11_0
       try clear hfz11_1
       try clear hfz11_2
       try clear hfz11_3
       try clear hfz11_4
       try clear hfz17_0
       try clear hfz17_1
       try clear hfz17_2
       try clear hfz17_3
       try clear hfz17_4
       try clear hfz18_0
       try clear hfz18_1
       try clear hfz18_2
       try clear hfz18_3
       try clear hfz18_4
       try clear hfz19_0
       try clear hfz19_1
       try clear hfz19_2
       try clear hfz19_3
       try clear hfz19_4
       try clear hfz9_0
       try clear hfz9_1
       try clear hfz9_2
       try clear hfz9_3
       try clear hfz9_4
       try clear hx344_0
       try clear hx344_1
       try clear hx344_2
       try clear hx344_3
       try clear hx344_4
       try clear p2
       try clear p344
       try clear q344
       obtain ⟨kq, x44_6, rfl, HA, HJ6, HO_4, BK345, HB⟩ := hcut
       cases kq with
       | zero => exact absurd HA.out (by simp [r14_Vars.j1])
       | succ kj6 =>
        have H := HA.out
        clear HA
        simp only [r14_Vars.j1] at H
        by_cases c20 : x44_6 = true
        ·subst c20
         have H1 : (some (([] : List Int), false)) = some (r1, r2) := by rw [if_pos rfl] at H; exact H
         clear H
         have H := H1
         clear H1
         simp only [Option.some.injEq, Prod.mk.injEq] at H
         obtain ⟨rfl, rfl⟩ := H
         go_wp2
         go_ret2
         exact ⟨_, by first | rfl | (simp [errW_none, errW_some] <;> rfl) | (simp [*, errW_none, errW_some] <;> rfl), by first | exact Kd.R_nil _ _ _ _ _ | exact Kd.N_nil _ _ _ _ _ | exact Kd.V_nil _ _ _ _ _ | exact Kd.Q_nil _ _ _ _ _ | exact Kd.S_nil _ _ _ _ _, by repeat (first | (with_reducible first | exact HB.out | apply zB | apply zN | apply below_drew1 | refine zE ?_ GE345.out) | exact HB.out)⟩
        ·replace c20 := Bool.eq_false_iff.mpr c20
         subst c20
         have H1 : ((r03_Text.f kj6 x4_1 ((rd_T41 l0 x5_1).f0)).bind fun t349 => ((some (([(((rd_T41 l0 x5_1).f1)) % 256, (((rd_T41 l0 x5_1).f2)) % 256, (((rd_T41 l0 x5_1).f3)) % 256] : List Int) : List Int)).bind fun y352 => (if t349.length + y352.length < 140737488355328 then ((r03_Put.f kj6 (t349 ++ y352) 8 ((rd_T41 l0 x5_1).f4)).bind fun t358 => (r14_Vars.l0 kj6 l0 t358 (wrap64 (x5_1 + 1)))) else (none)))) = some (r1, r2) := by rw [if_neg (show ¬ (false = true) by decide)] at H; exact H
         clear H
         have H := H1
         clear H1
         replace H := Option.bind_eq_some_iff.mp H
         obtain ⟨t349, A210, H⟩ := H
         replace H : ((some (([(((rd_T41 l0 x5_1).f1)) % 256, (((rd_T41 l0 x5_1).f2)) % 256, (((rd_T41 l0 x5_1).f3)) % 256] : List Int) : List Int)).bind fun y352 => (if t349.length + y352.length < 140737488355328 then ((r03_Put.f kj6 (t349 ++ y352) 8 ((rd_T41 l0 x5_1).f4)).bind fun t358 => (r14_Vars.l0 kj6 l0 t358 (wrap64 (x5_1 + 1)))) else (none))) = some (r1, r2) := H
         have A21 := zA A210
         clear A210
         obtain ⟨y352, hy352⟩ : ∃ y_ : List Int, y_ = (([(((rd_T41 l0 x5_1).f1)) % 256, (((rd_T41 l0 x5_1).f2)) % 256, (((rd_T41 l0 x5_1).f3)) % 256] : List Int)) := ⟨_, rfl⟩
         replace H : (if t349.length + y352.length < 140737488355328 then ((r03_Put.f kj6 (t349 ++ y352) 8 ((rd_T41 l0 x5_1).f4)).bind fun t358 => (r14_Vars.l0 kj6 l0 t358 (wrap64 (x5_1 + 1)))) else (none)) = some (r1, r2) := by first | (rw [hy352]; with_reducible exact H) | (have H2_ := (zP _ _).symm.trans H; rw [hy352]; with_reducible exact H2_) | (have H2_ := (zP _ _).symm.trans H; with_reducible exact H2_) | with_reducible exact H | (rw [hy352]; exact H) | exact H
         have Ny352 := zA hy352
         clear hy352
         by_cases c22 : t349.length + y352.length < 140737488355328
         ·rw [if_pos c22] at H
          have LMc22 := zA c22
          clear c22
          obtain ⟨y355, hy355⟩ : ∃ y_ : List Int, y_ = (t349 ++ y352) := ⟨_, rfl⟩
          replace H : ((r03_Put.f kj6 y355 8 ((rd_T41 l0 x5_1).f4)).bind fun t358 => (r14_Vars.l0 kj6 l0 t358 (wrap64 (x5_1 + 1)))) = some (r1, r2) := by first | (rw [hy355]; with_reducible exact H) | (have H2_ := (zP _ _).symm.trans H; rw [hy355]; with_reducible exact H2_) | (have H2_ := (zP _ _).symm.trans H; with_reducible exact H2_) | with_reducible exact H | (rw [hy355]; exact H) | exact H
          have Ny355 := zA hy355
          clear hy355
          replace H := Option.bind_eq_some_iff.mp H
          obtain ⟨t358, A230, H⟩ := H
          replace H : (r14_Vars.l0 kj6 l0 t358 (wrap64 (x5_1 + 1))) = some (r1, r2) := H
          have A23 := zA A230
          clear A230
          have H' := zA H
          clear H
          have hcz24_0 : wc.cell? ⟨gb345, 0, none⟩ = some (.string ((rd_T41 l0 x5_1).f0)) := (zC BK345.out 0).trans rfl
          have hcz24_1 : wc.cell? ⟨gb345, 1, none⟩ = some (.int .i64 ((rd_T41 l0 x5_1).f1)) := (zC BK345.out 1).trans rfl
          have hcz24_2 : wc.cell? ⟨gb345, 2, none⟩ = some (.int .i64 ((rd_T41 l0 x5_1).f2)) := (zC BK345.out 2).trans rfl
          have hcz24_3 : wc.cell? ⟨gb345, 3, none⟩ = some (.int .i64 ((rd_T41 l0 x5_1).f3)) := (zC BK345.out 3).trans rfl
          have hcz24_4 : wc.cell? ⟨gb345, 4, none⟩ = some (.int .i64 ((rd_T41 l0 x5_1).f4)) := (zC BK345.out 4).trans rfl
          have hfz24_0 := zF BK345.out 0
          have hfz24_1 := zF BK345.out 1
          have hfz24_2 := zF BK345.out 2
          have hfz24_3 := zF BK345.out 3
          have hfz24_4 := zF BK345.out 4
          obtain ⟨Ao25, co25, eo25⟩ := Kd.R_slice HO_4.out
          subst eo25
          go_wp2_with (first | ((with_reducible refine gate_callee (f := 70) rfl ?_); refine goesL_ (some 48) rfl rfl Tryd.func70 (by kernel_rfl) rfl #[.slice Ao25 x4_1.length co25, .string ((rd_T41 l0 x5_1).f0)] rfl (by (try simp only [zm, zc, zn]); first | done | rfl | (simp only [zd, zt]; rfl)) ?_; (with_reducible refine (r03_Text.calls kj6 _ _ x4_1 ((rd_T41 l0 x5_1).f0) t349 _ ?side1 ?side2 A21.out).mono ?_); (case side1 => repeat (first | exact (Kd.R_reads' HO_4.out).2.2)); (case side2 => exact (Kd.R_reads' HO_4.out).2.1); rintro e w26 ⟨v350, rfl, ho0, hb⟩; refine ⟨_, rfl, ?_⟩; have HO351 := zA (Kd.R_lower (Kd.R_new' ho0 (Kd.R_lt (by (with_reducible repeat (first | apply zS | apply zT)); exact HO_4.out))) (below_size (by repeat (first | (with_reducible first | exact HB.out | apply zB | apply zN | apply below_drew1 | refine zE ?_ GE345.out) | exact HB.out)))); replace HO_4 := zA (zK (by (with_reducible repeat (first | apply zS | apply zT)); exact HO_4.out) (zM ho0) hb); replace BK345 := zA (zQ (g := gb345) (o := .cells #[.string ((rd_T41 l0 x5_1).f0), .int .i64 ((rd_T41 l0 x5_1).f1), .int .i64 ((rd_T41 l0 x5_1).f2), .int .i64 ((rd_T41 l0 x5_1).f3), .int .i64 ((rd_T41 l0 x5_1).f4)] 41 (0, 0)) (by (with_reducible repeat (first | refine zG ?_ _ | refine zH ?_)); exact BK345.out) hb); replace HB := zA (below_step (by repeat (first | (with_reducible first | exact HB.out | apply zB | apply zN | apply below_drew1 | refine zE ?_ GE345.out) | exact HB.out)) hb); (try clear hb); (try clear hb2); (try clear hk); (try clear hi); (try clear ho0); have hcz27_0 : w26.cell? ⟨gb345, 0, none⟩ = some (.string ((rd_T41 l0 x5_1).f0)) := (zC BK345.out 0).trans rfl; have hcz27_1 : w26.cell? ⟨gb345, 1, none⟩ = some (.int .i64 ((rd_T41 l0 x5_1).f1)) := (zC BK345.out 1).trans rfl; have hcz27_2 : w26.cell? ⟨gb345, 2, none⟩ = some (.int .i64 ((rd_T41 l0 x5_1).f2)) := (zC BK345.out 2).trans rfl; have hcz27_3 : w26.cell? ⟨gb345, 3, none⟩ = some (.int .i64 ((rd_T41 l0 x5_1).f3)) := (zC BK345.out 3).trans rfl; have hcz27_4 : w26.cell? ⟨gb345, 4, none⟩ = some (.int .i64 ((rd_T41 l0 x5_1).f4)) := (zC BK345.out 4).trans rfl; have hfz27_0 := zF BK345.out 0; have hfz27_1 := zF BK345.out 1; have hfz27_2 := zF BK345.out 2; have hfz27_3 := zF BK345.out 3; have hfz27_4 := zF BK345.out 4) | ((with_reducible refine gate_dst (N := 59) rfl ?_); refine Kd.R_lit (Kd.int .u8) _ 5 ?hg (N := 59) ?hd (xs := ([(((rd_T41 l0 x5_1).f1)) % 256, (((rd_T41 l0 x5_1).f2)) % 256, (((rd_T41 l0 x5_1).f3)) % 256] : List Int)) (inner := [.int .u8 ((((rd_T41 l0 x5_1).f1)) % 256), .int .u8 ((((rd_T41 l0 x5_1).f2)) % 256), .int .u8 ((((rd_T41 l0 x5_1).f3)) % 256)]) (ok := fun _ => True) (okp := fun _ => True) ?hr ?hp (fun _ hk => hk) trivial (zX _ _) (z5 _) (by simp) ?_; (case hd => rfl); (case hg => rfl); (case hr => first | (go_simp; done) | (go_simp; rfl)); (case hp => exact (Reps.one (show Kd.M (Kd.int .u8) _ _ _ ((((rd_T41 l0 x5_1).f1)) % 256) [.int .u8 ((((rd_T41 l0 x5_1).f1)) % 256)] from rfl) (Reps.one (show Kd.M (Kd.int .u8) _ _ _ ((((rd_T41 l0 x5_1).f2)) % 256) [.int .u8 ((((rd_T41 l0 x5_1).f2)) % 256)] from rfl) (Reps.one (show Kd.M (Kd.int .u8) _ _ _ ((((rd_T41 l0 x5_1).f3)) % 256) [.int .u8 ((((rd_T41 l0 x5_1).f3)) % 256)] from rfl) (Reps.none _ _))))); intro v353 w28 ho29 hb hg_ hnew_; clear hg_ hnew_; (first | rw [← Ny352.out] at ho29 | (simp only [Int.reduceToNat] at ho29; rw [← Ny352.out] at ho29)); have HO354 := zA (Kd.R_lower (Kd.R_new' (Kd.R_new' ho29 (Kd.R_lt (by (with_reducible repeat (first | apply zS | apply zT)); exact HO_4.out))) (Kd.R_lt (by (with_reducible repeat (first | apply zS | apply zT)); exact HO351.out))) (below_size (by repeat (first | (with_reducible first | exact HB.out | apply zB | apply zN | apply below_drew1 | refine zE ?_ GE345.out) | exact HB.out)))); replace HO_4 := zA (zK (by (with_reducible repeat (first | apply zS | apply zT)); exact HO_4.out) (zM ho29) hb); replace HO351 := zA (zK (by (with_reducible repeat (first | apply zS | apply zT)); exact HO351.out) (zM ho29) hb); replace BK345 := zA (zQ (g := gb345) (o := .cells #[.string ((rd_T41 l0 x5_1).f0), .int .i64 ((rd_T41 l0 x5_1).f1), .int .i64 ((rd_T41 l0 x5_1).f2), .int .i64 ((rd_T41 l0 x5_1).f3), .int .i64 ((rd_T41 l0 x5_1).f4)] 41 (0, 0)) (by (with_reducible repeat (first | refine zG ?_ _ | refine zH ?_)); exact BK345.out) hb); replace HB := zA (below_step (by repeat (first | (with_reducible first | exact HB.out | apply zB | apply zN | apply below_drew1 | refine zE ?_ GE345.out) | exact HB.out)) hb); clear hb ho29; obtain ⟨Ao31, co31, eo31⟩ := Kd.R_slice HO354.out; subst eo31) | ((with_reducible refine gate_builtin (b := .append) (xs := #[.tmp 49, .tmp 59]) rfl ?_); at_builtin; refine Kd.R_append_rows (Kd.int .u8) (w0 := w) w.heap.size rfl (.tmp 49) (.tmp 59) 28 5 (.int .u8 0) 1 rfl Tryd.underlying28 info5 rfl (by decide) (by omega) v350 t349 y352 _ _ _ (fun k_ => some k_ ≠ (.slice Ao25 x4_1.length co25 : Value).ownBlock ∧ some k_ ≠ (.slice Ao31 y352.length co31 : Value).ownBlock) (fun _ => False) rfl rfl ?aO ?aR (fun _ _ h => h) (fun _ h => h.elim) ?aF ?aB ?aS ?aL ?_; (case aR => repeat (first | exact (Kd.R_reads' HO354.out).2.2)); (case aB => exact (by repeat (first | (with_reducible first | exact HB.out | apply zB | apply zN | apply below_drew1 | refine zE ?_ GE345.out) | exact HB.out))); (case aF => exact (fun k_ hk => ⟨Kd.fresh' (Kd.R_lt (by (with_reducible repeat (first | apply zS | apply zT)); exact HO_4.out)) k_ hk, Kd.fresh' (Kd.R_lt (by (with_reducible repeat (first | apply zS | apply zT)); exact HO354.out)) k_ hk⟩)); (case aO => exact (by (with_reducible repeat (first | apply zS | apply zT)); exact Kd.R_mono HO351.out (fun _ hk => ⟨hk.1.2, hk.2⟩))); (case aS => exact (below_size (by repeat (first | (with_reducible first | exact HB.out | apply zB | apply zN | apply below_drew1 | refine zE ?_ GE345.out) | exact HB.out)))); (case aL => have := LMc22.out; omega); intro v356 w30 ho hb hg hat; rw [← Ny355.out] at ho; replace HO_4 := zA (Kd.R_after (ok := (fun k_ => some k_ ≠ (.slice Ao31 y352.length co31 : Value).ownBlock)) (by (with_reducible repeat (first | apply zS | apply zT)); exact Kd.R_mono HO_4.out (fun _ hk => ⟨hk.2, hk.1.2⟩)) hg hat); replace BK345 := zA (blk_grown (g := gb345) (o := .cells #[.string ((rd_T41 l0 x5_1).f0), .int .i64 ((rd_T41 l0 x5_1).f1), .int .i64 ((rd_T41 l0 x5_1).f2), .int .i64 ((rd_T41 l0 x5_1).f3), .int .i64 ((rd_T41 l0 x5_1).f4)] 41 (0, 0)) (by (with_reducible repeat (first | refine zG ?_ _ | refine zH ?_)); exact BK345.out) hg (Kd.R_ne HO351.out BK345.out (by decide))); replace HO354 := zA (Kd.R_after (ok := (fun k_ => some k_ ≠ (.slice Ao25 x4_1.length co25 : Value).ownBlock)) (by (with_reducible repeat (first | apply zS | apply zT)); exact Kd.R_mono HO354.out (fun _ hk => ⟨hk.1.2, hk.2⟩)) hg hat); replace HB := zA (hb); have HO357 := zA (ho); clear HO351; clear ho hb hg hat; have hcz32_0 : w30.cell? ⟨gb345, 0, none⟩ = some (.string ((rd_T41 l0 x5_1).f0)) := (zC BK345.out 0).trans rfl; have hcz32_1 : w30.cell? ⟨gb345, 1, none⟩ = some (.int .i64 ((rd_T41 l0 x5_1).f1)) := (zC BK345.out 1).trans rfl; have hcz32_2 : w30.cell? ⟨gb345, 2, none⟩ = some (.int .i64 ((rd_T41 l0 x5_1).f2)) := (zC BK345.out 2).trans rfl; have hcz32_3 : w30.cell? ⟨gb345, 3, none⟩ = some (.int .i64 ((rd_T41 l0 x5_1).f3)) := (zC BK345.out 3).trans rfl; have hcz32_4 : w30.cell? ⟨gb345, 4, none⟩ = some (.int .i64 ((rd_T41 l0 x5_1).f4)) := (zC BK345.out 4).trans rfl; have hfz32_0 := zF BK345.out 0; have hfz32_1 := zF BK345.out 1; have hfz32_2 := zF BK345.out 2; have hfz32_3 := zF BK345.out 3; have hfz32_4 := zF BK345.out 4; obtain ⟨Ao33, co33, eo33⟩ := Kd.R_slice HO357.out; subst eo33) | ((with_reducible refine gate_callee (f := 34) rfl ?_); refine goesL_ (some 64) rfl rfl Tryd.func34 (by kernel_rfl) rfl #[.slice Ao33 y355.length co33, .int .i64 8, .int .i64 ((rd_T41 l0 x5_1).f4)] rfl (by (try simp only [zm, zc, zn]); first | done | rfl | (simp only [zd, zt]; rfl)) ?_; (with_reducible refine (r03_Put.calls kj6 _ _ y355 8 ((rd_T41 l0 x5_1).f4) t358 _ ?side1 ?side2 A23.out).mono ?_); (case side1 => repeat (first | exact (Kd.R_reads' HO357.out).2.2)); (case side2 => exact (Kd.R_reads' HO357.out).2.1); rintro e w34 ⟨v359, rfl, ho0, hb⟩; refine ⟨_, rfl, ?_⟩; have HO360 := zA (Kd.R_lower (Kd.R_new' (Kd.R_new' (Kd.R_new' ho0 (Kd.R_lt (by (with_reducible repeat (first | apply zS | apply zT)); exact HO_4.out))) (Kd.R_lt (by (with_reducible repeat (first | apply zS | apply zT)); exact HO354.out))) (Kd.R_lt (by (with_reducible repeat (first | apply zS | apply zT)); exact HO357.out))) (below_size (by repeat (first | (with_reducible first | exact HB.out | apply zB | apply zN | apply below_drew1 | refine zE ?_ GE345.out) | exact HB.out)))); replace HO_4 := zA (zK (by (with_reducible repeat (first | apply zS | apply zT)); exact HO_4.out) (zM ho0) hb); replace HO354 := zA (zK (by (with_reducible repeat (first | apply zS | apply zT)); exact HO354.out) (zM ho0) hb); replace HO357 := zA (zK (by (with_reducible repeat (first | apply zS | apply zT)); exact HO357.out) (zM ho0) hb); replace BK345 := zA (zQ (g := gb345) (o := .cells #[.string ((rd_T41 l0 x5_1).f0), .int .i64 ((rd_T41 l0 x5_1).f1), .int .i64 ((rd_T41 l0 x5_1).f2), .int .i64 ((rd_T41 l0 x5_1).f3), .int .i64 ((rd_T41 l0 x5_1).f4)] 41 (0, 0)) (by (with_reducible repeat (first | refine zG ?_ _ | refine zH ?_)); exact BK345.out) hb); replace HB := zA (below_step (by repeat (first | (with_reducible first | exact HB.out | apply zB | apply zN | apply below_drew1 | refine zE ?_ GE345.out) | exact HB.out)) hb); (try clear hb); (try clear hb2); (try clear hk); (try clear hi); (try clear ho0)))
          go_roundg kj6
          case measure => have := HK1.out; have := HJ6.out; omega
          case rel => exact ⟨(t358), (wrap64 (x5_1 + 1)), (by first | rfl | (simp; done) | (simp [*]; done)), H', ⟨by have := HK1.out; have := HJ6.out; omega⟩, ⟨by (with_reducible repeat (first | apply zS | apply zT)); exact Kd.R_mono HO360.out (fun _ hk => trivial)⟩, ⟨by repeat (first | (with_reducible first | exact HB.out | apply zB | apply zN | apply below_drew1 | refine zE ?_ GE345.out) | exact HB.out)⟩⟩
         ·rw [if_neg c22] at H
          exact absurd H (by simp)
     ·rw [if_neg c6] at H
      exact absurd H (by simp)
    ·rw [if_neg c5] at H
     have c5b0 : decide (x5_1 < (l0.length : Int)) = false := decide_eq_false c5
     clear c5
     simp only [Option.some.injEq, Prod.mk.injEq] at H
     obtain ⟨rfl, rfl⟩ := H
     go_wp2
     go_ret2
     exact ⟨_, by first | rfl | (simp [errW_none, errW_some] <;> rfl) | (simp [*, errW_none, errW_some] <;> rfl), by (with_reducible repeat (first | apply zS | apply zT)); exact HO_4.out, by repeat (first | (with_reducible first | exact HB.out | apply zB | apply zN | apply below_drew1) | exact HB.out)⟩

end Go.Proofs.YtdbfgfgbjheibaaDoor.PBx
end
