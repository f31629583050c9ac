/- Printed by a program of this session (wip/pg.py, over the print of the kit): functions, their Lean twins, and the proofs that the calls come to them; each under the conditions that it names. -/
import Derived.Test.YtdbfgfgbjheibaaDoorZBoxEncodesq
import Derived.Test.YtdbfgfgbjheibaaDoorZBoxEncodesab
import Derived.Test.YtdbfgfgbjheibaaDoorZBoxEncodesaf
import Derived.Test.YtdbfgfgbjheibaaDoorZBoxEncodesai
import Derived.Test.YtdbfgfgbjheibaaDoorZBoxEncodesaj
import Derived.Test.YtdbfgfgbjheibaaDoorZBoxEncodesal
/- Printed by a program of this session (wip/pg.py, over the print of the kit): functions, their Lean twins, and the proofs that the calls come to them; each under the conditions that it names. -/
namespace Go.Proofs.YtdbfgfgbjheibaaDoor.PBx
open Go.Proofs.YtdbfgfgbjheibaaDoor.Given
open Go.RowKit Go.Proofs.YtdbfgfgbjheibaaDoorW.PrintWords Go.Proofs.YtdbfgfgbjheibaaDoorW.PrintLast Go.Proofs.YtdbfgfgbjheibaaDoorW.PrintMore
attribute [local go_sem] max2_int min2_int max_two min_two max_three min_three max_four min_four   -- for this text's walks alone
set_option linter.unusedVariables false
set_option linter.unusedSimpArgs false

/-! ### r16_section: function 35 -/
def r16_section.f (k : Nat) (l0 : List Int) (a1 : Int) (l2 : List Int) : Option (List Int) := (r03_Put.f k l0 1 a1).bind fun t440 => ((r03_Put.f k t440 4 (l2.length : Int)).bind fun t443 => (if t443.length + l2.length < 140737488355328 then (some (t443 ++ l2)) else (none)))
set_option maxHeartbeats 8000000 in
set_option maxRecDepth 100000 in
theorem r16_section.calls (k : Nat) (A0 : Option Addr) (c0 : Nat) (l0 : List Int) (a1 : Int) (A2 : Option Addr) (c2 : Nat) (l2 : List Int) (r : List Int) (w : World) (hr0 : Kd.C (Kd.int .u8) w A0 l0.length l0) (hc0 : l0.length ≤ c0) (hr2 : Kd.C (Kd.int .u8) w A2 l2.length l2) (hc2 : l2.length ≤ c2) (h : r16_section.f k l0 a1 l2 = some r) :
  Calls Tryd.prog 35 #[.slice A0 l0.length c0, .int .i64 a1, .slice A2 l2.length c2] w fun e w' => ∃ v0_ : Value, e = .returned (v0_) ∧ Kd.R (Kd.int .u8) 5 w' w.heap.size (fun _ => True) v0_ r ∧ Below w.heap.size w w' := by
 have HR0 := zA hr0
 have HC0 := zA hc0
 clear hr0 hc0
 have HR2 := zA hr2
 have HC2 := zA hc2
 clear hr2 hc2
 have HB := zA (zX w.heap.size w)
 have H : ((r03_Put.f k l0 1 a1).bind fun t440 => ((r03_Put.f k t440 4 (l2.length : Int)).bind fun t443 => (if t443.length + l2.length < 140737488355328 then (some (t443 ++ l2)) else (none)))) = some r := h
 clear h
 replace H := Option.bind_eq_some_iff.mp H
 obtain ⟨t440, A40, H⟩ := H
 replace H : ((r03_Put.f k t440 4 (l2.length : Int)).bind fun t443 => (if t443.length + l2.length < 140737488355328 then (some (t443 ++ l2)) else (none))) = some r := H
 have A4 := zA A40
 clear A40
 replace H := Option.bind_eq_some_iff.mp H
 obtain ⟨t443, A50, H⟩ := H
 replace H : (if t443.length + l2.length < 140737488355328 then (some (t443 ++ l2)) else (none)) = some r := H
 have A5 := zA A50
 clear A50
 by_cases c6 : t443.length + l2.length < 140737488355328
 ·rw [if_pos c6] at H
  have LMc6 := zA c6
  clear c6
  obtain ⟨y446, hy446⟩ : ∃ y_ : List Int, y_ = (t443 ++ l2) := ⟨_, rfl⟩
  replace H : (some y446) = some r := by first | (rw [hy446]; with_reducible exact H) | (have H2_ := (zP _ _).symm.trans H; rw [hy446]; with_reducible exact H2_) | (have H2_ := (zP _ _).symm.trans H; with_reducible exact H2_) | with_reducible exact H | (rw [hy446]; exact H) | exact H
  have Ny446 := zA hy446
  clear hy446
  obtain rfl := zJ H
  go_enter Tryd.func35, Tryd.ntmps35
  go_wp2_with (first | ((with_reducible refine gate_callee (f := 34) rfl ?_); refine goesL_ (some 9) rfl rfl Tryd.func34 (by kernel_rfl) rfl #[.slice A0 l0.length c0, .int .i64 1, .int .i64 a1] rfl (by (try simp only [zm, zc, zn]); first | done | rfl | (simp only [zd, zt]; rfl)) ?_; (with_reducible refine (r03_Put.calls k _ _ l0 1 a1 t440 _ ?side1 ?side2 A4.out).mono ?_); (case side1 => repeat (first | exact HR0.out)); (case side2 => exact HC0.out); rintro e w7 ⟨v441, rfl, ho0, hb⟩; refine ⟨_, rfl, ?_⟩; have HO442 := zA (Kd.R_lower ho0 (below_size (by repeat (first | (with_reducible first | exact HB.out | apply zB | apply zN | apply below_drew1) | exact HB.out)))); replace HB := zA (below_step (by repeat (first | (with_reducible first | exact HB.out | apply zB | apply zN | apply below_drew1) | exact HB.out)) hb); (try clear hb); (try clear hb2); (try clear hk); (try clear hi); (try clear ho0); obtain ⟨Ao8, co8, eo8⟩ := Kd.R_slice HO442.out; subst eo8) | ((with_reducible refine gate_callee (f := 34) rfl ?_); refine goesL_ (some 12) rfl rfl Tryd.func34 (by kernel_rfl) rfl #[.slice Ao8 t440.length co8, .int .i64 4, .int .i64 (l2.length : Int)] rfl (by (try simp only [zm, zc, zn]); first | done | rfl | (simp only [zd, zt]; rfl)) ?_; (with_reducible refine (r03_Put.calls k _ _ t440 4 (l2.length : Int) t443 _ ?side1 ?side2 A5.out).mono ?_); (case side1 => repeat (first | exact (Kd.R_reads' HO442.out).2.2)); (case side2 => exact (Kd.R_reads' HO442.out).2.1); rintro e w9 ⟨v444, rfl, ho0, hb⟩; refine ⟨_, rfl, ?_⟩; have HO445 := zA (Kd.R_lower (Kd.R_new' ho0 (Kd.R_lt (by (with_reducible repeat (first | apply zS | apply zT)); exact HO442.out))) (below_size (by repeat (first | (with_reducible first | exact HB.out | apply zB | apply zN | apply below_drew1) | exact HB.out)))); replace HO442 := zA (zK (by (with_reducible repeat (first | apply zS | apply zT)); exact HO442.out) (zM ho0) hb); replace HB := zA (below_step (by repeat (first | (with_reducible first | exact HB.out | apply zB | apply zN | apply below_drew1) | exact HB.out)) hb); (try clear hb); (try clear hb2); (try clear hk); (try clear hi); (try clear ho0)) | ((with_reducible refine gate_builtin (b := .append) (xs := #[.tmp 13, .tmp 14]) rfl ?_); at_builtin; refine Kd.R_append_rows (Kd.int .u8) (w0 := w) w.heap.size rfl (.tmp 13) (.tmp 14) 28 5 (.int .u8 0) 1 rfl Tryd.underlying28 info5 rfl (by decide) (by omega) v444 t443 l2 _ _ _ (fun k_ => some k_ ≠ (.slice Ao8 t440.length co8 : Value).ownBlock) (fun _ => False) rfl rfl ?aO ?aR (fun _ _ h => h) (fun _ h => h.elim) ?aF ?aB ?aS ?aL ?_; (case aR => repeat (first | exact (zD HR2.out HB.out))); (case aB => exact (by repeat (first | (with_reducible first | exact HB.out | apply zB | apply zN | apply below_drew1) | exact HB.out))); (case aF => exact (fun k_ hk => Kd.fresh' (Kd.R_lt (by (with_reducible repeat (first | apply zS | apply zT)); exact HO442.out)) k_ hk)); (case aO => exact (by (with_reducible repeat (first | apply zS | apply zT)); exact Kd.R_mono HO445.out (fun _ hk => hk.2))); (case aS => exact (below_size (by repeat (first | (with_reducible first | exact HB.out | apply zB | apply zN | apply below_drew1) | exact HB.out)))); (case aL => have := LMc6.out; omega); intro v447 w10 ho hb hg hat; rw [← Ny446.out] at ho; replace HO442 := zA (Kd.R_after (ok := (fun _ => True)) (by (with_reducible repeat (first | apply zS | apply zT)); exact HO442.out) hg hat); replace HB := zA (hb); have HO448 := zA (ho); clear HO445; clear ho hb hg hat))
  go_ret
  exact ⟨_, by first | rfl | (simp [errW_none, errW_some] <;> rfl) | (simp [*, errW_none, errW_some] <;> rfl), by (with_reducible repeat (first | apply zS | apply zT)); exact Kd.R_mono HO448.out (fun _ hk => trivial), by repeat (first | (with_reducible first | exact HB.out | apply zB | apply zN | apply below_drew1) | exact HB.out)⟩
 ·rw [if_neg c6] at H
  exact absurd H (by simp)

/-! ### r02_Next: function 100 -/
def r02_Next.l0 : Nat → Int → Int → Option (Int)
 | 0, _, _ => none
 | k + 1, x0, x5 => if x5 < 8 then (if (Int.tmod x0 2) = 1 then (r02_Next.l0 k (Go.bits .xor .u32 ((Int.tdiv x0 2) % 4294967296) 3988292384) (wrap64 (x5 + 1))) else (r02_Next.l0 k ((Int.tdiv x0 2) % 4294967296) (wrap64 (x5 + 1)))) else (some x0)
def r02_Next.f (k : Nat) (a0 : Int) (a1 : Int) : Option (Int) := r02_Next.l0 k (Go.bits .xor .u32 a0 ((a1) % 4294967296)) 0
set_option maxHeartbeats 8000000 in
set_option maxRecDepth 100000 in
theorem r02_Next.calls (k : Nat) (a0 : Int) (a1 : Int) (r : Int) (w : World) (h : r02_Next.f k a0 a1 = some r) :
  Calls Tryd.prog 100 #[.int .u32 a0, .int .u8 a1] w fun e w' => e = .returned (.int .u32 r) ∧ Drawn0 w w' := by
 have H : (r02_Next.l0 k (Go.bits .xor .u32 a0 ((a1) % 4294967296)) 0) = some r := h
 clear h
 have H' := zA H
 clear H
 go_enter Tryd.func100, Tryd.ntmps100
 go_wp2
 go_loopg [0, 5] k (fun kq v0 v5 w' => ∃ (x0_1 : Int) (x5_1 : Int), v0 = .int .u32 x0_1 ∧ v5 = .int .i64 x5_1 ∧ Aside0 (r02_Next.l0 kq x0_1 x5_1 = some r) ∧ Aside0 (kq ≤ k) ∧ Drawn0 w w')
 case atStart => exact ⟨(Go.bits .xor .u32 a0 ((a1) % 4294967296)), (0), (by first | rfl | (simp; done) | (simp [*]; done)), (by first | rfl | (simp; done) | (simp [*]; done)), H', ⟨z5 _⟩, by repeat (first | exact z4 _ | apply z3)⟩
 case round =>
  clear H'
  try clear c1
  try clear p2
  obtain ⟨x0_1, x5_1, rfl, rfl, HA, HK1, ⟨m1, rfl⟩⟩ := hrel
  cases gk with
  | zero => exact absurd HA.out (by simp [r02_Next.l0])
  | succ k1 =>
   have H := HA.out
   clear HA
   simp only [r02_Next.l0] at H
   by_cases c3 : x5_1 < 8
   ·rw [if_pos c3] at H
    have c3b0 : decide (x5_1 < 8) = true := decide_eq_true c3
    clear c3
    by_cases c4 : (Int.tmod x0_1 2) = 1
    ·rw [if_pos c4] at H
     have c4b0 : ((Int.tmod x0_1 2) == 1) = true := beq_iff_eq.mpr c4
     have c4b1 : ((Int.tmod x0_1 2) != 1) = false := bne_eq_false_iff_eq.mpr c4
     clear c4
     have H' := zA H
     clear H
     go_wp2
     go_roundg k1
     case measure => have := HK1.out; omega
     case rel => exact ⟨(Go.bits .xor .u32 ((Int.tdiv x0_1 2) % 4294967296) 3988292384), (wrap64 (x5_1 + 1)), (by first | rfl | (simp; done) | (simp [*]; done)), (by first | rfl | (simp; done) | (simp [*]; done)), H', ⟨by have := HK1.out; omega⟩, by repeat (first | exact z4 _ | apply z3)⟩
    ·rw [if_neg c4] at H
     have c4b0 : ((Int.tmod x0_1 2) == 1) = false := beq_eq_false_iff_ne.mpr c4
     have c4b1 : ((Int.tmod x0_1 2) != 1) = true := bne_iff_ne.mpr c4
     have H' := zA H
     clear H
     go_wp2
     go_roundg k1
     case measure => have := HK1.out; omega
     case rel => exact ⟨((Int.tdiv x0_1 2) % 4294967296), (wrap64 (x5_1 + 1)), (by first | rfl | (simp; done) | (simp [*]; done)), (by first | rfl | (simp; done) | (simp [*]; done)), H', ⟨by have := HK1.out; omega⟩, by repeat (first | exact z4 _ | apply z3)⟩
   ·rw [if_neg c3] at H
    have c3b0 : decide (x5_1 < 8) = false := decide_eq_false c3
    clear c3
    obtain rfl := zJ H
    go_wp2
    go_ret
    exact ⟨by first | rfl | (simp; done) | (simp [*]; done), by repeat (first | exact z4 _ | apply z3)⟩

/-! ### r02_Over: function 74 -/
def r02_Over.l0 : Nat → Int → List Int → Int → Option (Int)
 | 0, _, _, _ => none
 | k + 1, x0, x1, x5 => if x5 < (x1.length : Int) then (if 0 ≤ x5 then ((r02_Next.f k x0 (rd x1 x5)).bind fun t450 => (r02_Over.l0 k t450 x1 (wrap64 (x5 + 1)))) else (none)) else (some x0)
def r02_Over.f (k : Nat) (a0 : Int) (l1 : List Int) : Option (Int) := r02_Over.l0 k a0 l1 0
set_option maxHeartbeats 8000000 in
set_option maxRecDepth 100000 in
theorem r02_Over.calls (k : Nat) (a0 : Int) (A1 : Option Addr) (c1 : Nat) (l1 : List Int) (r : Int) (w : World) (hr1 : Kd.C (Kd.int .u8) w A1 l1.length l1) (hc1 : l1.length ≤ c1) (h : r02_Over.f k a0 l1 = some r) :
  Calls Tryd.prog 74 #[.int .u32 a0, .slice A1 l1.length c1] w fun e w' => e = .returned (.int .u32 r) ∧ Drawn0 w w' := by
 have HR1 := zA hr1
 have HC1 := zA hc1
 clear hr1 hc1
 have H : (r02_Over.l0 k a0 l1 0) = some r := h
 clear h
 have H' := zA H
 clear H
 go_enter Tryd.func74, Tryd.ntmps74
 go_wp2
 go_loopg [0, 5] k (fun kq v0 v5 w' => ∃ (x0_1 : Int) (x5_1 : Int), v0 = .int .u32 x0_1 ∧ v5 = .int .i64 x5_1 ∧ Aside0 (r02_Over.l0 kq x0_1 l1 x5_1 = some r) ∧ Aside0 (kq ≤ k) ∧ Drawn0 w w')
 case atStart => exact ⟨(a0), (0), (by first | rfl | (simp; done) | (simp [*]; done)), (by first | rfl | (simp; done) | (simp [*]; done)), H', ⟨z5 _⟩, by repeat (first | exact z4 _ | apply z3)⟩
 case round =>
  clear H'
  try clear c1
  try clear p2
  obtain ⟨x0_1, x5_1, rfl, rfl, HA, HK1, ⟨m1, rfl⟩⟩ := hrel
  cases gk with
  | zero => exact absurd HA.out (by simp [r02_Over.l0])
  | succ k1 =>
   have H := HA.out
   clear HA
   simp only [r02_Over.l0] at H
   by_cases c3 : x5_1 < (l1.length : Int)
   ·rw [if_pos c3] at H
    have c3b0 : decide (x5_1 < (l1.length : Int)) = true := decide_eq_true c3
    clear c3
    by_cases c4 : 0 ≤ x5_1
    ·rw [if_pos c4] at H
     have c4b0 : decide (0 ≤ x5_1) = true := decide_eq_true c4
     clear c4
     replace H := Option.bind_eq_some_iff.mp H
     obtain ⟨t450, A50, H⟩ := H
     replace H : (r02_Over.l0 k1 t450 l1 (wrap64 (x5_1 + 1))) = some r := H
     have A5 := zA A50
     clear A50
     have H' := zA H
     clear H
     have p449 : 0 ≤ (x5_1 : Int) := zO (by first | (with_reducible assumption) | assumption)
     have q449 : x5_1 < (l1.length : Int) := zO (by first | (with_reducible assumption) | assumption)
     obtain ⟨ad449, e449, hx449_0⟩ := Kd.at_int HR1.out x5_1 p449 q449
     cases e449
     replace p449 := eq_true p449
     replace q449 := eq_true q449
     go_wp2_with (first | ((with_reducible refine gate_callee (f := 100) rfl ?_); refine goesL_ (some 17) rfl rfl Tryd.func100 (by kernel_rfl) rfl #[.int .u32 x0_1, .int .u8 (rd l1 x5_1)] rfl (by (try simp only [zm, zc, zn]); first | done | rfl | (simp only [zd, zt]; rfl)) ?_; (with_reducible refine (r02_Next.calls k1 x0_1 (rd l1 x5_1) t450 _ A5.out).mono ?_); rintro e w' ⟨rfl, ⟨nd, rfl⟩⟩; refine ⟨_, rfl, ?_⟩))
     go_roundg k1
     case measure => have := HK1.out; omega
     case rel => exact ⟨(t450), (wrap64 (x5_1 + 1)), (by first | rfl | (simp; done) | (simp [*]; done)), (by first | rfl | (simp; done) | (simp [*]; done)), H', ⟨by have := HK1.out; omega⟩, by repeat (first | exact z4 _ | apply z3)⟩
    ·rw [if_neg c4] at H
     exact absurd H (by simp)
   ·rw [if_neg c3] at H
    have c3b0 : decide (x5_1 < (l1.length : Int)) = false := decide_eq_false c3
    clear c3
    obtain rfl := zJ H
    go_wp2
    go_ret
    exact ⟨by first | rfl | (simp; done) | (simp [*]; done), by repeat (first | exact z4 _ | apply z3)⟩

/-! ### r02_Of: function 36 -/
def r02_Of.f (k : Nat) (l0 : List Int) : Option (Int) := (r02_Over.f k 4294967295 l0).bind fun t451 => (some ((4294967295 - t451) % 4294967296))
set_option maxHeartbeats 8000000 in
set_option maxRecDepth 100000 in
theorem r02_Of.calls (k : Nat) (A0 : Option Addr) (c0 : Nat) (l0 : List Int) (r : Int) (w : World) (hr0 : Kd.C (Kd.int .u8) w A0 l0.length l0) (hc0 : l0.length ≤ c0) (h : r02_Of.f k l0 = some r) :
  Calls Tryd.prog 36 #[.slice A0 l0.length c0] w fun e w' => e = .returned (.int .u32 r) ∧ Drawn0 w w' := by
 have HR0 := zA hr0
 have HC0 := zA hc0
 clear hr0 hc0
 have H : ((r02_Over.f k 4294967295 l0).bind fun t451 => (some ((4294967295 - t451) % 4294967296))) = some r := h
 clear h
 replace H := Option.bind_eq_some_iff.mp H
 obtain ⟨t451, A20, H⟩ := H
 replace H : (some ((4294967295 - t451) % 4294967296)) = some r := H
 have A2 := zA A20
 clear A20
 obtain rfl := zJ H
 go_enter Tryd.func36, Tryd.ntmps36
 go_wp2_with (first | ((with_reducible refine gate_callee (f := 74) rfl ?_); refine goesL_ (some 4) rfl rfl Tryd.func74 (by kernel_rfl) rfl #[.int .u32 4294967295, .slice A0 l0.length c0] rfl (by (try simp only [zm, zc, zn]); first | done | rfl | (simp only [zd, zt]; rfl)) ?_; (with_reducible refine (r02_Over.calls k 4294967295 _ _ l0 t451 _ ?side1 ?side2 A2.out).mono ?_); (case side1 => repeat (first | exact HR0.out)); (case side2 => exact HC0.out); rintro e w' ⟨rfl, ⟨nd, rfl⟩⟩; refine ⟨_, rfl, ?_⟩))
 go_ret
 exact ⟨by first | rfl | (simp; done) | (simp [*]; done), by repeat (first | exact z4 _ | apply z3)⟩

/-! ### r16_Encode: function 12 -/
mutual
def r16_Encode.j0 : Nat → List Int → List Int → List Int → Bool → List (S68) → List (S41) → List (S43) → List (S48) → Option (List Int × Bool)
 | 0, _, _, _, _, _, _, _, _ => none
 | k + 1, x4, x6, x8, x48, x453000, x453001, x453002, x453003 => if x48 = true then (some (([] : List Int), false)) else (r16_Encode.l0 k x4 x6 x8 (([((x453003.length : Int)) % 256] : List Int)) 0 x453000 x453001 x453002 x453003)
def r16_Encode.l0 : Nat → List Int → List Int → List Int → List Int → Int → List (S68) → List (S41) → List (S43) → List (S48) → Option (List Int × Bool)
 | 0, _, _, _, _, _, _, _, _, _ => none
 | k + 1, x4, x6, x8, x10, x11, x453000, x453001, x453002, x453003 => if x11 < (x453003.length : Int) then (if 0 ≤ x11 then ((r15_Put.f k ((rd_T48 x453003 x11).f0) ((rd_T48 x453003 x11).f1) ((rd_T48 x453003 x11).f2) ((rd_T48 x453003 x11).f3) ((rd_T48 x453003 x11).f4)).bind fun bt469 => (if bt469.2 = true then ((r03_Put.f k x10 4 (bt469.1.length : Int)).bind fun t473 => (if t473.length + bt469.1.length < 140737488355328 then (r16_Encode.l0 k x4 x6 x8 (t473 ++ bt469.1) (wrap64 (x11 + 1)) x453000 x453001 x453002 x453003) else (none))) else (some (([] : List Int), false)))) else (none)) else ((r16_section.f k (([76, 66, 75, 49] : List Int)) 1 x4).bind fun t482 => ((r16_section.f k t482 2 x6).bind fun t485 => ((r16_section.f k t485 3 x8).bind fun t488 => ((r16_section.f k t488 4 x10).bind fun t491 => ((r02_Of.f k t491).bind fun t494 => ((r03_Put.f k t491 4 (wrap64 (t494))).bind fun t495 => (if (t495.length : Int) > 1048576 then (some (([] : List Int), false)) else (some (t495, true)))))))))
end
def r16_Encode.f (k : Nat) (l0_0 : List (S68)) (l0_1 : List (S41)) (l0_2 : List (S43)) (l0_3 : List (S48)) : Option (List Int × Bool) := (r14_Consts.f k l0_0).bind fun bt453 => ((r14_Vars.f k l0_1).bind fun bt457 => ((r14_Blocks.f k l0_2).bind fun bt461 => (if bt453.2 = true then (if bt457.2 = true then (if bt461.2 = true then (r16_Encode.j0 k bt453.1 bt457.1 bt461.1 (decide ((l0_3.length : Int) > 8)) l0_0 l0_1 l0_2 l0_3) else (r16_Encode.j0 k bt453.1 bt457.1 bt461.1 true l0_0 l0_1 l0_2 l0_3)) else (r16_Encode.j0 k bt453.1 bt457.1 bt461.1 true l0_0 l0_1 l0_2 l0_3)) else (r16_Encode.j0 k bt453.1 bt457.1 bt461.1 true l0_0 l0_1 l0_2 l0_3))))
set_option maxHeartbeats 8000000 in
set_option maxRecDepth 100000 in
theorem r16_Encode.calls (k : Nat) (A0_0 : Option Addr) (c0_0 : Nat) (l0_0 : List (S68)) (A0_1 : Option Addr) (c0_1 : Nat) (l0_1 : List (S41)) (A0_2 : Option Addr) (c0_2 : Nat) (l0_2 : List (S43)) (A0_3 : Option Addr) (c0_3 : Nat) (l0_3 : List (S48)) (r1 : List Int) (r2 : Bool) (w : World) (hr0_0 : Kd.C k68 w A0_0 l0_0.length l0_0) (hc0_0 : l0_0.length ≤ c0_0) (hr0_1 : Kd.C k41 w A0_1 l0_1.length l0_1) (hc0_1 : l0_1.length ≤ c0_1) (hr0_2 : Kd.C k43 w A0_2 l0_2.length l0_2) (hc0_2 : l0_2.length ≤ c0_2) (hr0_3 : Kd.C k48 w A0_3 l0_3.length l0_3) (hc0_3 : l0_3.length ≤ c0_3) (h : r16_Encode.f k l0_0 l0_1 l0_2 l0_3 = some (r1, r2)) :
  Calls Tryd.prog 12 #[.agg #[.slice A0_0 l0_0.length c0_0, .slice A0_1 l0_1.length c0_1, .slice A0_2 l0_2.length c0_2, .slice A0_3 l0_3.length c0_3]] w fun e w' => ∃ v0_ : Value, e = .returned (.tuple #[v0_, .bool r2]) ∧ Kd.R (Kd.int .u8) 5 w' w.heap.size (fun _ => True) v0_ r1 ∧ Below w.heap.size w w' := by
 have hu27 := Tryd.underlying27
 have hu48 := Tryd.underlying48
 have HR0_0 := zA hr0_0
 have HC0_0 := zA hc0_0
 clear hr0_0 hc0_0
 have HR0_1 := zA hr0_1
 have HC0_1 := zA hc0_1
 clear hr0_1 hc0_1
 have HR0_2 := zA hr0_2
 have HC0_2 := zA hc0_2
 clear hr0_2 hc0_2
 have HR0_3 := zA hr0_3
 have HC0_3 := zA hc0_3
 clear hr0_3 hc0_3
 have HB := zA (zX w.heap.size w)
 have H : ((r14_Consts.f k l0_0).bind fun bt453 => ((r14_Vars.f k l0_1).bind fun bt457 => ((r14_Blocks.f k l0_2).bind fun bt461 => (if bt453.2 = true then (if bt457.2 = true then (if bt461.2 = true then (r16_Encode.j0 k bt453.1 bt457.1 bt461.1 (decide ((l0_3.length : Int) > 8)) l0_0 l0_1 l0_2 l0_3) else (r16_Encode.j0 k bt453.1 bt457.1 bt461.1 true l0_0 l0_1 l0_2 l0_3)) else (r16_Encode.j0 k bt453.1 bt457.1 bt461.1 true l0_0 l0_1 l0_2 l0_3)) else (r16_Encode.j0 k bt453.1 bt457.1 bt461.1 true l0_0 l0_1 l0_2 l0_3))))) = some (r1, r2) := h
 clear h
 replace H := Option.bind_eq_some_iff.mp H
 obtain ⟨⟨t453, t454⟩, A20, H⟩ := H
 replace H : ((r14_Vars.f k l0_1).bind fun bt457 => ((r14_Blocks.f k l0_2).bind fun bt461 => (if t454 = true then (if bt457.2 = true then (if bt461.2 = true then (r16_Encode.j0 k t453 bt457.1 bt461.1 (decide ((l0_3.length : Int) > 8)) l0_0 l0_1 l0_2 l0_3) else (r16_Encode.j0 k t453 bt457.1 bt461.1 true l0_0 l0_1 l0_2 l0_3)) else (r16_Encode.j0 k t453 bt457.1 bt461.1 true l0_0 l0_1 l0_2 l0_3)) else (r16_Encode.j0 k t453 bt457.1 bt461.1 true l0_0 l0_1 l0_2 l0_3)))) = some (r1, r2) := H
 have A2 := zA A20
 clear A20
 replace H := Option.bind_eq_some_iff.mp H
 obtain ⟨⟨t457, t458⟩, A30, H⟩ := H
 replace H : ((r14_Blocks.f k l0_2).bind fun bt461 => (if t454 = true then (if t458 = true then (if bt461.2 = true then (r16_Encode.j0 k t453 t457 bt461.1 (decide ((l0_3.length : Int) > 8)) l0_0 l0_1 l0_2 l0_3) else (r16_Encode.j0 k t453 t457 bt461.1 true l0_0 l0_1 l0_2 l0_3)) else (r16_Encode.j0 k t453 t457 bt461.1 true l0_0 l0_1 l0_2 l0_3)) else (r16_Encode.j0 k t453 t457 bt461.1 true l0_0 l0_1 l0_2 l0_3))) = some (r1, r2) := H
 have A3 := zA A30
 clear A30
 replace H := Option.bind_eq_some_iff.mp H
 obtain ⟨⟨t461, t462⟩, A40, H⟩ := H
 replace H : (if t454 = true then (if t458 = true then (if t462 = true then (r16_Encode.j0 k t453 t457 t461 (decide ((l0_3.length : Int) > 8)) l0_0 l0_1 l0_2 l0_3) else (r16_Encode.j0 k t453 t457 t461 true l0_0 l0_1 l0_2 l0_3)) else (r16_Encode.j0 k t453 t457 t461 true l0_0 l0_1 l0_2 l0_3)) else (r16_Encode.j0 k t453 t457 t461 true l0_0 l0_1 l0_2 l0_3)) = some (r1, r2) := H
 have A4 := zA A40
 clear A40
 have HC5 := zA H
 clear H
 go_enter Tryd.func12, Tryd.ntmps12
 go_upto_region 4 with (first | ((with_reducible refine gate_dst (N := 1) rfl ?_); (try (refine gate_guard (by rfl) ?_; dsimp only)); refine box_event ?hg (N := 1) ?hd (cs := #[.slice A0_0 l0_0.length c0_0, .slice A0_1 l0_1.length c0_1, .slice A0_2 l0_2.length c0_2, .slice A0_3 l0_3.length c0_3]) (t := 27) ?hr ?_; (case hd => rfl); (case hg => rfl); (case hr => first | (go_simp; done) | (go_simp; rfl)); intro gb452 hg w6 hbox hb; have BK452 := zA (hbox); have GW452 := zA ((by rw [hg]; exact (below_size (by repeat (first | (with_reducible first | exact HB.out | apply zB | apply zN | apply below_drew1) | exact HB.out))) : w.heap.size ≤ gb452)); have GE452 := GW452; replace HB := zA (below_step (by repeat (first | (with_reducible first | exact HB.out | apply zB | apply zN | apply below_drew1) | exact HB.out)) hb); clear hb hbox hg; have hcz7_0 : w6.cell? ⟨gb452, 0, none⟩ = some (.slice A0_0 l0_0.length c0_0) := (zC BK452.out 0).trans rfl; have hcz7_1 : w6.cell? ⟨gb452, 1, none⟩ = some (.slice A0_1 l0_1.length c0_1) := (zC BK452.out 1).trans rfl; have hcz7_2 : w6.cell? ⟨gb452, 2, none⟩ = some (.slice A0_2 l0_2.length c0_2) := (zC BK452.out 2).trans rfl; have hcz7_3 : w6.cell? ⟨gb452, 3, none⟩ = some (.slice A0_3 l0_3.length c0_3) := (zC BK452.out 3).trans rfl; have hfz7_0 := zF BK452.out 0; have hfz7_1 := zF BK452.out 1; have hfz7_2 := zF BK452.out 2; have hfz7_3 := zF BK452.out 3) | ((with_reducible refine gate_callee (f := 30) rfl ?_); refine goesL_ (some 18) rfl rfl Tryd.func30 (by kernel_rfl) rfl #[.slice A0_0 l0_0.length c0_0] rfl (by (try simp only [zm, zc, zn]); first | done | rfl | (simp only [zd, zt]; rfl)) ?_; (with_reducible refine (r14_Consts.calls k _ _ l0_0 t453 t454 _ ?side1 ?side2 A2.out).mono ?_); (case side1 => repeat (first | exact (zD HR0_0.out HB.out))); (case side2 => exact HC0_0.out); rintro e w8 ⟨v455, rfl, ho0, hb⟩; refine ⟨_, rfl, ?_⟩; have HO456 := zA (Kd.R_lower ho0 (below_size (by repeat (first | (with_reducible first | exact HB.out | apply zB | apply zN | apply below_drew1 | refine zE ?_ GE452.out) | exact HB.out)))); replace BK452 := zA (zQ (g := gb452) (o := .cells #[.slice A0_0 l0_0.length c0_0, .slice A0_1 l0_1.length c0_1, .slice A0_2 l0_2.length c0_2, .slice A0_3 l0_3.length c0_3] 27 (0, 0)) (by (with_reducible repeat (first | refine zG ?_ _ | refine zH ?_)); exact BK452.out) hb); replace HB := zA (below_step (by repeat (first | (with_reducible first | exact HB.out | apply zB | apply zN | apply below_drew1 | refine zE ?_ GE452.out) | exact HB.out)) hb); (try clear hb); (try clear hb2); (try clear hk); (try clear hi); (try clear ho0); have hcz9_0 : w8.cell? ⟨gb452, 0, none⟩ = some (.slice A0_0 l0_0.length c0_0) := (zC BK452.out 0).trans rfl; have hcz9_1 : w8.cell? ⟨gb452, 1, none⟩ = some (.slice A0_1 l0_1.length c0_1) := (zC BK452.out 1).trans rfl; have hcz9_2 : w8.cell? ⟨gb452, 2, none⟩ = some (.slice A0_2 l0_2.length c0_2) := (zC BK452.out 2).trans rfl; have hcz9_3 : w8.cell? ⟨gb452, 3, none⟩ = some (.slice A0_3 l0_3.length c0_3) := (zC BK452.out 3).trans rfl; have hfz9_0 := zF BK452.out 0; have hfz9_1 := zF BK452.out 1; have hfz9_2 := zF BK452.out 2; have hfz9_3 := zF BK452.out 3) | ((with_reducible refine gate_callee (f := 31) rfl ?_); refine goesL_ (some 24) rfl rfl Tryd.func31 (by kernel_rfl) rfl #[.slice A0_1 l0_1.length c0_1] rfl (by (try simp only [zm, zc, zn]); first | done | rfl | (simp only [zd, zt]; rfl)) ?_; (with_reducible refine (r14_Vars.calls k _ _ l0_1 t457 t458 _ ?side1 ?side2 A3.out).mono ?_); (case side1 => repeat (first | exact (zD HR0_1.out HB.out))); (case side2 => exact HC0_1.out); rintro e w10 ⟨v459, rfl, ho0, hb⟩; refine ⟨_, rfl, ?_⟩; have HO460 := zA (Kd.R_lower (Kd.R_new' ho0 (Kd.R_lt (by (with_reducible repeat (first | apply zS | apply zT)); exact HO456.out))) (below_size (by repeat (first | (with_reducible first | exact HB.out | apply zB | apply zN | apply below_drew1 | refine zE ?_ GE452.out) | exact HB.out)))); replace HO456 := zA (zK (by (with_reducible repeat (first | apply zS | apply zT)); exact HO456.out) (zM ho0) hb); replace BK452 := zA (zQ (g := gb452) (o := .cells #[.slice A0_0 l0_0.length c0_0, .slice A0_1 l0_1.length c0_1, .slice A0_2 l0_2.length c0_2, .slice A0_3 l0_3.length c0_3] 27 (0, 0)) (by (with_reducible repeat (first | refine zG ?_ _ | refine zH ?_)); exact BK452.out) hb); replace HB := zA (below_step (by repeat (first | (with_reducible first | exact HB.out | apply zB | apply zN | apply below_drew1 | refine zE ?_ GE452.out) | exact HB.out)) hb); (try clear hb); (try clear hb2); (try clear hk); (try clear hi); (try clear ho0); have hcz11_0 : w10.cell? ⟨gb452, 0, none⟩ = some (.slice A0_0 l0_0.length c0_0) := (zC BK452.out 0).trans rfl; have hcz11_1 : w10.cell? ⟨gb452, 1, none⟩ = some (.slice A0_1 l0_1.length c0_1) := (zC BK452.out 1).trans rfl; have hcz11_2 : w10.cell? ⟨gb452, 2, none⟩ = some (.slice A0_2 l0_2.length c0_2) := (zC BK452.out 2).trans rfl; have hcz11_3 : w10.cell? ⟨gb452, 3, none⟩ = some (.slice A0_3 l0_3.length c0_3) := (zC BK452.out 3).trans rfl; have hfz11_0 := zF BK452.out 0; have hfz11_1 := zF BK452.out 1; have hfz11_2 := zF BK452.out 2; have hfz11_3 := zF BK452.out 3) | ((with_reducible refine gate_callee (f := 32) rfl ?_); refine goesL_ (some 30) rfl rfl Tryd.func32 (by kernel_rfl) rfl #[.slice A0_2 l0_2.length c0_2] rfl (by (try simp only [zm, zc, zn]); first | done | rfl | (simp only [zd, zt]; rfl)) ?_; (with_reducible refine (r14_Blocks.calls k _ _ l0_2 t461 t462 _ ?side1 ?side2 A4.out).mono ?_); (case side1 => repeat (first | exact (zD HR0_2.out HB.out))); (case side2 => exact HC0_2.out); rintro e w12 ⟨v463, rfl, ho0, hb⟩; refine ⟨_, rfl, ?_⟩; have HO464 := zA (Kd.R_lower (Kd.R_new' (Kd.R_new' ho0 (Kd.R_lt (by (with_reducible repeat (first | apply zS | apply zT)); exact HO456.out))) (Kd.R_lt (by (with_reducible repeat (first | apply zS | apply zT)); exact HO460.out))) (below_size (by repeat (first | (with_reducible first | exact HB.out | apply zB | apply zN | apply below_drew1 | refine zE ?_ GE452.out) | exact HB.out)))); replace HO456 := zA (zK (by (with_reducible repeat (first | apply zS | apply zT)); exact HO456.out) (zM ho0) hb); replace HO460 := zA (zK (by (with_reducible repeat (first | apply zS | apply zT)); exact HO460.out) (zM ho0) hb); replace BK452 := zA (zQ (g := gb452) (o := .cells #[.slice A0_0 l0_0.length c0_0, .slice A0_1 l0_1.length c0_1, .slice A0_2 l0_2.length c0_2, .slice A0_3 l0_3.length c0_3] 27 (0, 0)) (by (with_reducible repeat (first | refine zG ?_ _ | refine zH ?_)); exact BK452.out) hb); replace HB := zA (below_step (by repeat (first | (with_reducible first | exact HB.out | apply zB | apply zN | apply below_drew1 | refine zE ?_ GE452.out) | exact HB.out)) hb); (try clear hb); (try clear hb2); (try clear hk); (try clear hi); (try clear ho0)))
 (try simp only [Act.put, zY, List.set_cons_zero, z2])
 go_cut [48] (fun v48 wc => ∃ (kq : Nat) (x48_4 : Bool), v48 = .bool x48_4 ∧ Aside0 (r16_Encode.j0 kq t453 t457 t461 x48_4 l0_0 l0_1 l0_2 l0_3 = some (r1, r2)) ∧ Aside0 (kq ≤ k) ∧ Aside0 (Kd.R (Kd.int .u8) 5 wc w.heap.size (fun k_ => some k_ ≠ (v459 : Value).ownBlock ∧ some k_ ≠ (v463 : Value).ownBlock) v455 t453) ∧ Aside0 (Kd.R (Kd.int .u8) 5 wc w.heap.size (fun k_ => some k_ ≠ (v455 : Value).ownBlock ∧ some k_ ≠ (v463 : Value).ownBlock) v459 t457) ∧ Aside0 (Kd.R (Kd.int .u8) 5 wc w.heap.size (fun k_ => some k_ ≠ (v455 : Value).ownBlock ∧ some k_ ≠ (v459 : Value).ownBlock) v463 t461) ∧ Aside0 (wc.heap[gb452]? = some (.cells #[(.slice A0_0 l0_0.length c0_0), (.slice A0_1 l0_1.length c0_1), (.slice A0_2 l0_2.length c0_2), (.slice A0_3 l0_3.length c0_3)] 27 (0, 0))) ∧ Aside0 (Below w.heap.size w wc))
 case first =>
  have H := HC5.out
  clear HC5
  by_cases c13 : t454 = true
  ·subst c13
   have H1 : (if t458 = true then (if t462 = true then (r16_Encode.j0 k t453 t457 t461 (decide ((l0_3.length : Int) > 8)) l0_0 l0_1 l0_2 l0_3) else (r16_Encode.j0 k t453 t457 t461 true l0_0 l0_1 l0_2 l0_3)) else (r16_Encode.j0 k t453 t457 t461 true l0_0 l0_1 l0_2 l0_3)) = some (r1, r2) := by rw [if_pos rfl] at H; exact H
   clear H
   have H := H1
   clear H1
   by_cases c14 : t458 = true
   ·subst c14
    have H1 : (if t462 = true then (r16_Encode.j0 k t453 t457 t461 (decide ((l0_3.length : Int) > 8)) l0_0 l0_1 l0_2 l0_3) else (r16_Encode.j0 k t453 t457 t461 true l0_0 l0_1 l0_2 l0_3)) = some (r1, r2) := by rw [if_pos rfl] at H; exact H
    clear H
    have H := H1
    clear H1
    by_cases c15 : t462 = true
    ·subst c15
     have H1 : (r16_Encode.j0 k t453 t457 t461 (decide ((l0_3.length : Int) > 8)) l0_0 l0_1 l0_2 l0_3) = some (r1, r2) := by rw [if_pos rfl] at H; exact H
     clear H
     have H := H1
     clear H1
     have H' := zA H
     clear H
     have hcz16_0 : w12.cell? ⟨gb452, 0, none⟩ = some (.slice A0_0 l0_0.length c0_0) := (zC BK452.out 0).trans rfl
     have hcz16_1 : w12.cell? ⟨gb452, 1, none⟩ = some (.slice A0_1 l0_1.length c0_1) := (zC BK452.out 1).trans rfl
     have hcz16_2 : w12.cell? ⟨gb452, 2, none⟩ = some (.slice A0_2 l0_2.length c0_2) := (zC BK452.out 2).trans rfl
     have hcz16_3 : w12.cell? ⟨gb452, 3, none⟩ = some (.slice A0_3 l0_3.length c0_3) := (zC BK452.out 3).trans rfl
     have hfz16_0 := zF BK452.out 0
     have hfz16_1 := zF BK452.out 1
     have hfz16_2 := zF BK452.out 2
     have hfz16_3 := zF BK452.out 3
     go_wp2
     go_meet
     case rel => exact ⟨_, (decide ((l0_3.length : Int) > 8)), (by first | rfl | (simp; done) | (simp [*]; done)), H', ⟨by first | omega | exact z5 _⟩, ⟨by (with_reducible repeat (first | apply zS | apply zT)); exact Kd.R_mono HO456.out (fun _ hk => ⟨hk.1.2, hk.2⟩)⟩, ⟨by (with_reducible repeat (first | apply zS | apply zT)); exact Kd.R_mono HO460.out (fun _ hk => ⟨hk.1.2, hk.2⟩)⟩, ⟨by (with_reducible repeat (first | apply zS | apply zT)); exact Kd.R_mono HO464.out (fun _ hk => ⟨hk.1.2, hk.2⟩)⟩, ⟨by (with_reducible repeat (first | refine zG ?_ _ | refine zH ?_)); exact BK452.out⟩, ⟨by repeat (first | (with_reducible first | exact HB.out | apply zB | apply zN | apply below_drew1 | refine zE ?_ GE452.out) | exact HB.out)⟩⟩
    ·replace c15 := Bool.eq_false_iff.mpr c15
     subst c15
     have H1 : (r16_Encode.j0 k t453 t457 t461 true l0_0 l0_1 l0_2 l0_3) = some (r1, r2) := by rw [if_neg (show ¬ (false = true) by decide)] at H; exact H
     clear H
     have H := H1
     clear H1
     have H' := zA H
     clear H
     go_wp2
     go_meet
     case rel => exact ⟨_, (true), (by first | rfl | (simp; done) | (simp [*]; done)), H', ⟨by first | omega | exact z5 _⟩, ⟨by (with_reducible repeat (first | apply zS | apply zT)); exact Kd.R_mono HO456.out (fun _ hk => ⟨hk.1.2, hk.2⟩)⟩, ⟨by (with_reducible repeat (first | apply zS | apply zT)); exact Kd.R_mono HO460.out (fun _ hk => ⟨hk.1.2, hk.2⟩)⟩, ⟨by (with_reducible repeat (first | apply zS | apply zT)); exact Kd.R_mono HO464.out (fun _ hk => ⟨hk.1.2, hk.2⟩)⟩, ⟨by (with_reducible repeat (first | refine zG ?_ _ | refine zH ?_)); exact BK452.out⟩, ⟨by repeat (first | (with_reducible first | exact HB.out | apply zB | apply zN | apply below_drew1 | refine zE ?_ GE452.out) | exact HB.out)⟩⟩
   ·replace c14 := Bool.eq_false_iff.mpr c14
    subst c14
    have H1 : (r16_Encode.j0 k t453 t457 t461 true l0_0 l0_1 l0_2 l0_3) = some (r1, r2) := by rw [if_neg (show ¬ (false = true) by decide)] at H; exact H
    clear H
    have H := H1
    clear H1
    have H' := zA H
    clear H
    go_wp2
    go_meet
    case rel => exact ⟨_, (true), (by first | rfl | (simp; done) | (simp [*]; done)), H', ⟨by first | omega | exact z5 _⟩, ⟨by (with_reducible repeat (first | apply zS | apply zT)); exact Kd.R_mono HO456.out (fun _ hk => ⟨hk.1.2, hk.2⟩)⟩, ⟨by (with_reducible repeat (first | apply zS | apply zT)); exact Kd.R_mono HO460.out (fun _ hk => ⟨hk.1.2, hk.2⟩)⟩, ⟨by (with_reducible repeat (first | apply zS | apply zT)); exact Kd.R_mono HO464.out (fun _ hk => ⟨hk.1.2, hk.2⟩)⟩, ⟨by (with_reducible repeat (first | refine zG ?_ _ | refine zH ?_)); exact BK452.out⟩, ⟨by repeat (first | (with_reducible first | exact HB.out | apply zB | apply zN | apply below_drew1 | refine zE ?_ GE452.out) | exact HB.out)⟩⟩
  ·replace c13 := Bool.eq_false_iff.mpr c13
   subst c13
   have H1 : (r16_Encode.j0 k t453 t457 t461 true l0_0 l0_1 l0_2 l0_3) = some (r1, r2) := by rw [if_neg (show ¬ (false = true) by decide)] at H; exact H
   clear H
   have H := H1
   clear H1
   have H' := zA H
   clear H
   go_wp2
   go_meet
   case rel => exact ⟨_, (true), (by first | rfl | (simp; done) | (simp [*]; done)), H', ⟨by first | omega | exact z5 _⟩, ⟨by (with_reducible repeat (first | apply zS | apply zT)); exact Kd.R_mono HO456.out (fun _ hk => ⟨hk.1.2, hk.2⟩)⟩, ⟨by (with_reducible repeat (first | apply zS | apply zT)); exact Kd.R_mono HO460.out (fun _ hk => ⟨hk.1.2, hk.2⟩)⟩, ⟨by (with_reducible repeat (first | apply zS | apply zT)); exact Kd.R_mono HO464.out (fun _ hk => ⟨hk.1.2, hk.2⟩)⟩, ⟨by (with_reducible repeat (first | refine zG ?_ _ | refine zH ?_)); exact BK452.out⟩, ⟨by repeat (first | (with_reducible first | exact HB.out | apply zB | apply zN | apply below_drew1 | refine zE ?_ GE452.out) | exact HB.out)⟩⟩
 case rest =>
  clear HC5
  try clear c1
  try clear p2
  try clear c3
  try clear c12
  try clear c13
  try clear c14
  try clear c15
  try clear hcz11_0
  try clear hcz11_1
  try clear hcz11_2
  try clear hcz11_3
  try clear hcz16_0
  try clear hcz16_1
  try clear hcz16_2
  try clear hcz16_3
  try clear hcz7_0
  try clear hcz7_1
  try clear hcz7_2
  try clear hcz7_3
  try clear hcz9_0
  try clear hcz9_1
  try clear hcz9_2
  try clear hcz9_3
  try clear hfz11_0
  try clear hfz11_1
  try clear hfz11_2
  try clear hfz11_3
  try clear hfz16_0
  try clear hfz16_1
  try clear hfz16_2
  try clear hfz16_3
  try clear hfz7_0
  try clear hfz7_1
  try clear hfz7_2
  try clear hfz7_3
  try clear hfz9_0
  try clear hfz9_1
  try clear hfz9_2
  try clear hfz9_3
  obtain ⟨kq, x48_4, rfl, HA, HJ4, HO_4, HO_6, HO_8, BK452, HB⟩ := hcut
  cases kq with
  | zero => exact absurd HA.out (by simp [r16_Encode.j0])
  | succ kj4 =>
   have H := HA.out
   clear HA
   simp only [r16_Encode.j0] at H
   by_cases c17 : x48_4 = true
   ·subst c17
    have H1 : (some (([] : List Int), false)) = some (r1, r2) := by rw [if_pos rfl] at H; exact H
    clear H
    have H := H1
    clear H1
    simp only [Option.some.injEq, Prod.mk.injEq] at H
    obtain ⟨rfl, rfl⟩ := H
    go_wp2
    go_ret2
    exact ⟨_, by first | rfl | (simp [errW_none, errW_some] <;> rfl) | (simp [*, errW_none, errW_some] <;> rfl), by first | exact Kd.R_nil _ _ _ _ _ | exact Kd.N_nil _ _ _ _ _ | exact Kd.V_nil _ _ _ _ _ | exact Kd.Q_nil _ _ _ _ _ | exact Kd.S_nil _ _ _ _ _, by repeat (first | (with_reducible first | exact HB.out | apply zB | apply zN | apply below_drew1 | refine zE ?_ GE452.out) | exact HB.out)⟩
   ·replace c17 := Bool.eq_false_iff.mpr c17
    subst c17
    have H1 : (r16_Encode.l0 kj4 t453 t457 t461 (([((l0_3.length : Int)) % 256] : List Int)) 0 l0_0 l0_1 l0_2 l0_3) = some (r1, r2) := by rw [if_neg (show ¬ (false = true) by decide)] at H; exact H
    clear H
    have H := H1
    clear H1
    obtain ⟨y465, hy465⟩ : ∃ y_ : List Int, y_ = (([((l0_3.length : Int)) % 256] : List Int)) := ⟨_, rfl⟩
    replace H : (r16_Encode.l0 kj4 t453 t457 t461 y465 0 l0_0 l0_1 l0_2 l0_3) = some (r1, r2) := by first | (rw [hy465]; with_reducible exact H) | (have H2_ := (zP _ _).symm.trans H; rw [hy465]; with_reducible exact H2_) | (have H2_ := (zP _ _).symm.trans H; with_reducible exact H2_) | with_reducible exact H | (rw [hy465]; exact H) | exact H
    have Ny465 := zA hy465
    clear hy465
    have H' := zA H
    clear H
    have hcz18_0 : wc.cell? ⟨gb452, 0, none⟩ = some (.slice A0_0 l0_0.length c0_0) := (zC BK452.out 0).trans rfl
    have hcz18_1 : wc.cell? ⟨gb452, 1, none⟩ = some (.slice A0_1 l0_1.length c0_1) := (zC BK452.out 1).trans rfl
    have hcz18_2 : wc.cell? ⟨gb452, 2, none⟩ = some (.slice A0_2 l0_2.length c0_2) := (zC BK452.out 2).trans rfl
    have hcz18_3 : wc.cell? ⟨gb452, 3, none⟩ = some (.slice A0_3 l0_3.length c0_3) := (zC BK452.out 3).trans rfl
    have hfz18_0 := zF BK452.out 0
    have hfz18_1 := zF BK452.out 1
    have hfz18_2 := zF BK452.out 2
    have hfz18_3 := zF BK452.out 3
    go_wp2_with (first | ((with_reducible refine gate_dst (N := 53) rfl ?_); (try (refine gate_guard (by rfl) ?_; dsimp only)); refine Kd.R_lit (Kd.int .u8) _ 5 ?hg (N := 53) ?hd (xs := ([((l0_3.length : Int)) % 256] : List Int)) (inner := [.int .u8 (((l0_3.length : Int)) % 256)]) (ok := fun _ => True) (okp := fun _ => True) ?hr ?hp (fun _ hk => hk) trivial (zX _ _) (z5 _) (by simp) ?_; (case hd => rfl); (case hg => rfl); (case hr => first | (go_simp; done) | (go_simp; rfl)); (case hp => exact (Reps.one (show Kd.M (Kd.int .u8) _ _ _ (((l0_3.length : Int)) % 256) [.int .u8 (((l0_3.length : Int)) % 256)] from rfl) (Reps.none _ _))); intro v466 w19 ho20 hb hg_ hnew_; clear hg_ hnew_; (first | rw [← Ny465.out] at ho20 | (simp only [Int.reduceToNat] at ho20; rw [← Ny465.out] at ho20)); have HO467 := zA (Kd.R_lower (Kd.R_new' (Kd.R_new' (Kd.R_new' ho20 (Kd.R_lt (by (with_reducible repeat (first | apply zS | apply zT)); exact HO_4.out))) (Kd.R_lt (by (with_reducible repeat (first | apply zS | apply zT)); exact HO_6.out))) (Kd.R_lt (by (with_reducible repeat (first | apply zS | apply zT)); exact HO_8.out))) (below_size (by repeat (first | (with_reducible first | exact HB.out | apply zB | apply zN | apply below_drew1 | refine zE ?_ GE452.out) | exact HB.out)))); replace HO_4 := zA (zK (by (with_reducible repeat (first | apply zS | apply zT)); exact HO_4.out) (zM ho20) hb); replace HO_6 := zA (zK (by (with_reducible repeat (first | apply zS | apply zT)); exact HO_6.out) (zM ho20) hb); replace HO_8 := zA (zK (by (with_reducible repeat (first | apply zS | apply zT)); exact HO_8.out) (zM ho20) hb); replace BK452 := zA (zQ (g := gb452) (o := .cells #[.slice A0_0 l0_0.length c0_0, .slice A0_1 l0_1.length c0_1, .slice A0_2 l0_2.length c0_2, .slice A0_3 l0_3.length c0_3] 27 (0, 0)) (by (with_reducible repeat (first | refine zG ?_ _ | refine zH ?_)); exact BK452.out) hb); replace HB := zA (below_step (by repeat (first | (with_reducible first | exact HB.out | apply zB | apply zN | apply below_drew1 | refine zE ?_ GE452.out) | exact HB.out)) hb); clear hb ho20))
    go_loopg [10, 11] kj4 (fun kq v10 v11 w' => ∃ (x10_2 : List Int) (x11_2 : Int), v11 = .int .i64 x11_2 ∧ Aside0 (r16_Encode.l0 kq t453 t457 t461 x10_2 x11_2 l0_0 l0_1 l0_2 l0_3 = some (r1, r2)) ∧ Aside0 (kq ≤ kj4) ∧ Aside0 (Kd.R (Kd.int .u8) 5 w' w.heap.size (fun k_ => some k_ ≠ (v459 : Value).ownBlock ∧ some k_ ≠ (v463 : Value).ownBlock ∧ some k_ ≠ (v10 : Value).ownBlock) v455 t453) ∧ Aside0 (Kd.R (Kd.int .u8) 5 w' w.heap.size (fun k_ => some k_ ≠ (v455 : Value).ownBlock ∧ some k_ ≠ (v463 : Value).ownBlock ∧ some k_ ≠ (v10 : Value).ownBlock) v459 t457) ∧ Aside0 (Kd.R (Kd.int .u8) 5 w' w.heap.size (fun k_ => some k_ ≠ (v455 : Value).ownBlock ∧ some k_ ≠ (v459 : Value).ownBlock ∧ some k_ ≠ (v10 : Value).ownBlock) v463 t461) ∧ Aside0 (Kd.R (Kd.int .u8) 5 w' w.heap.size (fun k_ => some k_ ≠ (v455 : Value).ownBlock ∧ some k_ ≠ (v459 : Value).ownBlock ∧ some k_ ≠ (v463 : Value).ownBlock) v10 x10_2) ∧ Aside0 (w'.heap[gb452]? = some (.cells #[(.slice A0_0 l0_0.length c0_0), (.slice A0_1 l0_1.length c0_1), (.slice A0_2 l0_2.length c0_2), (.slice A0_3 l0_3.length c0_3)] 27 (0, 0))) ∧ Aside0 (Below w.heap.size w w'))
    case atStart => exact ⟨(y465), (0), (by first | rfl | (simp; done) | (simp [*]; done)), H', ⟨z5 _⟩, ⟨by (with_reducible repeat (first | apply zS | apply zT)); exact Kd.R_mono HO_4.out (fun _ hk => ⟨hk.1.1, ⟨hk.1.2, hk.2⟩⟩)⟩, ⟨by (with_reducible repeat (first | apply zS | apply zT)); exact Kd.R_mono HO_6.out (fun _ hk => ⟨hk.1.1, ⟨hk.1.2, hk.2⟩⟩)⟩, ⟨by (with_reducible repeat (first | apply zS | apply zT)); exact Kd.R_mono HO_8.out (fun _ hk => ⟨hk.1.1, ⟨hk.1.2, hk.2⟩⟩)⟩, ⟨by (with_reducible repeat (first | apply zS | apply zT)); exact Kd.R_mono HO467.out (fun _ hk => ⟨hk.1.1.2, ⟨hk.1.2, hk.2⟩⟩)⟩, ⟨by (with_reducible repeat (first | refine zG ?_ _ | refine zH ?_)); exact BK452.out⟩, ⟨by repeat (first | (with_reducible first | exact HB.out | apply zB | apply zN | apply below_drew1 | refine zE ?_ GE452.out) | exact HB.out)⟩⟩
    case round =>
     clear H'
     try clear c1
     try clear p2
     try clear c3
     try clear c12
     try clear c13
     try clear c14
     try clear c15
     try clear c17
     try clear hcz11_0
     try clear hcz11_1
     try clear hcz11_2
     try clear hcz11_3
     try clear hcz16_0
     try clear hcz16_1
     try clear hcz16_2
     try clear hcz16_3
     try clear hcz18_0
     try clear hcz18_1
     try clear hcz18_2
     try clear hcz18_3
     try clear hcz7_0
     try clear hcz7_1
     try clear hcz7_2
     try clear hcz7_3
     try clear hcz9_0
     try clear hcz9_1
     try clear hcz9_2
     try clear hcz9_3
     try clear hfz11_0
     try clear hfz11_1
     try clear hfz11_2
     try clear hfz11_3
     try clear hfz16_0
     try clear hfz16_1
     try clear hfz16_2
     try clear hfz16_3
     try clear hfz18_0
     try clear hfz18_1
     try clear hfz18_2
     try clear hfz18_3
     try clear hfz7_0
     try clear hfz7_1
     try clear hfz7_2
     try clear hfz7_3
     try clear hfz9_0
     try clear hfz9_1
     try clear hfz9_2
     try clear hfz9_3
     try clear p2
     obtain ⟨x10_2, x11_2, rfl, HA, HK2, HO_4, HO_6, HO_8, HO_10, BK452, HB⟩ := hrel
     cases gk with
     | zero => exact absurd HA.out (by simp [r16_Encode.l0])
     | succ k2 =>
      have H := HA.out
      clear HA
      simp only [r16_Encode.l0] at H
      by_cases c21 : x11_2 < (l0_3.length : Int)
      ·rw [if_pos c21] at H
       have c21b0 : decide (x11_2 < (l0_3.length : Int)) = true := decide_eq_true c21
       clear c21
       by_cases c22 : 0 ≤ x11_2
       ·rw [if_pos c22] at H
        have c22b0 : decide (0 ≤ x11_2) = true := decide_eq_true c22
        clear c22
        replace H := Option.bind_eq_some_iff.mp H
        obtain ⟨⟨t469, t472⟩, A230, H⟩ := H
        replace H : (if t472 = true then ((r03_Put.f k2 x10_2 4 (t469.length : Int)).bind fun t473 => (if t473.length + t469.length < 140737488355328 then (r16_Encode.l0 k2 t453 t457 t461 (t473 ++ t469) (wrap64 (x11_2 + 1)) l0_0 l0_1 l0_2 l0_3) else (none))) else (some (([] : List Int), false))) = some (r1, r2) := H
        have A23 := zA A230
        clear A230
        by_cases c24 : t472 = true
        ·subst c24
         have H1 : ((r03_Put.f k2 x10_2 4 (t469.length : Int)).bind fun t473 => (if t473.length + t469.length < 140737488355328 then (r16_Encode.l0 k2 t453 t457 t461 (t473 ++ t469) (wrap64 (x11_2 + 1)) l0_0 l0_1 l0_2 l0_3) else (none))) = some (r1, r2) := by rw [if_pos rfl] at H; exact H
         clear H
         have H := H1
         clear H1
         replace H := Option.bind_eq_some_iff.mp H
         obtain ⟨t473, A250, H⟩ := H
         replace H : (if t473.length + t469.length < 140737488355328 then (r16_Encode.l0 k2 t453 t457 t461 (t473 ++ t469) (wrap64 (x11_2 + 1)) l0_0 l0_1 l0_2 l0_3) else (none)) = some (r1, r2) := H
         have A25 := zA A250
         clear A250
         by_cases c26 : t473.length + t469.length < 140737488355328
         ·rw [if_pos c26] at H
          have LMc26 := zA c26
          clear c26
          obtain ⟨y476, hy476⟩ : ∃ y_ : List Int, y_ = (t473 ++ t469) := ⟨_, rfl⟩
          replace H : (r16_Encode.l0 k2 t453 t457 t461 y476 (wrap64 (x11_2 + 1)) l0_0 l0_1 l0_2 l0_3) = some (r1, r2) := by first | (rw [hy476]; with_reducible exact H) | (have H2_ := (zP _ _).symm.trans H; rw [hy476]; with_reducible exact H2_) | (have H2_ := (zP _ _).symm.trans H; with_reducible exact H2_) | with_reducible exact H | (rw [hy476]; exact H) | exact H
          have Ny476 := zA hy476
          clear hy476
          have H' := zA H
          clear H
          have hcz27_0 : wr.cell? ⟨gb452, 0, none⟩ = some (.slice A0_0 l0_0.length c0_0) := (zC BK452.out 0).trans rfl
          have hcz27_1 : wr.cell? ⟨gb452, 1, none⟩ = some (.slice A0_1 l0_1.length c0_1) := (zC BK452.out 1).trans rfl
          have hcz27_2 : wr.cell? ⟨gb452, 2, none⟩ = some (.slice A0_2 l0_2.length c0_2) := (zC BK452.out 2).trans rfl
          have hcz27_3 : wr.cell? ⟨gb452, 3, none⟩ = some (.slice A0_3 l0_3.length c0_3) := (zC BK452.out 3).trans rfl
          have hfz27_0 := zF BK452.out 0
          have hfz27_1 := zF BK452.out 1
          have hfz27_2 := zF BK452.out 2
          have hfz27_3 := zF BK452.out 3
          have p468 : 0 ≤ (x11_2 : Int) := zO (by first | (with_reducible assumption) | assumption)
          have q468 : x11_2 < (l0_3.length : Int) := zO (by first | (with_reducible assumption) | assumption)
          obtain ⟨ad468, A468_1, c468_1, A468_3, c468_3, A468_4, c468_4, e468, hx468_0, hx468_1, hx468_2, hx468_3, hx468_4, hl468_1, hi468_1, hl468_3, hi468_3, hl468_4, hi468_4⟩ := at_T48 HR0_3.out x11_2 p468 q468
          cases e468
          replace hx468_0 := (HB.out.cell (zL w _ hx468_0)).trans hx468_0
          replace hx468_1 := (HB.out.cell (zL w _ hx468_1)).trans hx468_1
          replace hx468_2 := (HB.out.cell (zL w _ hx468_2)).trans hx468_2
          replace hx468_3 := (HB.out.cell (zL w _ hx468_3)).trans hx468_3
          replace hx468_4 := (HB.out.cell (zL w _ hx468_4)).trans hx468_4
          have HR468_1 := zA hi468_1
          have HC468_1 := zA hl468_1
          clear hi468_1 hl468_1
          have HR468_3 := zA hi468_3
          have HC468_3 := zA hl468_3
          clear hi468_3 hl468_3
          have HR468_4 := zA hi468_4
          have HC468_4 := zA hl468_4
          clear hi468_4 hl468_4
          replace p468 := eq_true p468
          replace q468 := eq_true q468
          go_wp2_with (first | ((with_reducible refine gate_callee (f := 33) rfl ?_); refine goesL_ (some 67) rfl rfl Tryd.func33 (by kernel_rfl) rfl #[.agg #[.string ((rd_T48 l0_3 x11_2).f0), .slice A468_1 ((rd_T48 l0_3 x11_2).f1).length c468_1, .int .i64 ((rd_T48 l0_3 x11_2).f2), .slice A468_3 ((rd_T48 l0_3 x11_2).f3).length c468_3, .slice A468_4 ((rd_T48 l0_3 x11_2).f4).length c468_4]] rfl (by (try simp only [zm, zc, zn]); first | done | rfl | (simp only [zd, zt]; rfl)) ?_; (with_reducible refine (r15_Put.calls k2 ((rd_T48 l0_3 x11_2).f0) _ _ ((rd_T48 l0_3 x11_2).f1) ((rd_T48 l0_3 x11_2).f2) _ _ ((rd_T48 l0_3 x11_2).f3) _ _ ((rd_T48 l0_3 x11_2).f4) t469 true _ ?side1 ?side2 ?side3 ?side4 ?side5 ?side6 A23.out).mono ?_); (case side1 => repeat (first | exact (zD HR468_1.out HB.out))); (case side2 => exact HC468_1.out); (case side3 => repeat (first | exact (zD HR468_3.out HB.out))); (case side4 => exact HC468_3.out); (case side5 => repeat (first | exact (zD HR468_4.out HB.out))); (case side6 => exact HC468_4.out); rintro e w28 ⟨v470, rfl, ho0, hb⟩; refine ⟨_, rfl, ?_⟩; have HO471 := zA (Kd.R_lower (Kd.R_new' (Kd.R_new' (Kd.R_new' (Kd.R_new' ho0 (Kd.R_lt (by (with_reducible repeat (first | apply zS | apply zT)); exact HO_4.out))) (Kd.R_lt (by (with_reducible repeat (first | apply zS | apply zT)); exact HO_6.out))) (Kd.R_lt (by (with_reducible repeat (first | apply zS | apply zT)); exact HO_8.out))) (Kd.R_lt (by (with_reducible repeat (first | apply zS | apply zT)); exact HO_10.out))) (below_size (by repeat (first | (with_reducible first | exact HB.out | apply zB | apply zN | apply below_drew1 | refine zE ?_ GE452.out) | exact HB.out)))); replace HO_4 := zA (zK (by (with_reducible repeat (first | apply zS | apply zT)); exact HO_4.out) (zM ho0) hb); replace HO_6 := zA (zK (by (with_reducible repeat (first | apply zS | apply zT)); exact HO_6.out) (zM ho0) hb); replace HO_8 := zA (zK (by (with_reducible repeat (first | apply zS | apply zT)); exact HO_8.out) (zM ho0) hb); replace HO_10 := zA (zK (by (with_reducible repeat (first | apply zS | apply zT)); exact HO_10.out) (zM ho0) hb); replace BK452 := zA (zQ (g := gb452) (o := .cells #[.slice A0_0 l0_0.length c0_0, .slice A0_1 l0_1.length c0_1, .slice A0_2 l0_2.length c0_2, .slice (some ad468) l0_3.length c0_3] 27 (0, 0)) (by (with_reducible repeat (first | refine zG ?_ _ | refine zH ?_)); exact BK452.out) hb); replace HB := zA (below_step (by repeat (first | (with_reducible first | exact HB.out | apply zB | apply zN | apply below_drew1 | refine zE ?_ GE452.out) | exact HB.out)) hb); (try clear hb); (try clear hb2); (try clear hk); (try clear hi); (try clear ho0); obtain ⟨Ao29, co29, eo29⟩ := Kd.R_slice HO471.out; subst eo29; obtain ⟨Ao30, co30, eo30⟩ := Kd.R_slice HO_10.out; subst eo30) | ((with_reducible refine gate_callee (f := 34) rfl ?_); refine goesL_ (some 75) rfl rfl Tryd.func34 (by kernel_rfl) rfl #[.slice Ao30 x10_2.length co30, .int .i64 4, .int .i64 (t469.length : Int)] rfl (by (try simp only [zm, zc, zn]); first | done | rfl | (simp only [zd, zt]; rfl)) ?_; (with_reducible refine (r03_Put.calls k2 _ _ x10_2 4 (t469.length : Int) t473 _ ?side1 ?side2 A25.out).mono ?_); (case side1 => repeat (first | exact (Kd.R_reads' HO_10.out).2.2)); (case side2 => exact (Kd.R_reads' HO_10.out).2.1); rintro e w31 ⟨v474, rfl, ho0, hb⟩; refine ⟨_, rfl, ?_⟩; have HO475 := zA (Kd.R_lower (Kd.R_new' (Kd.R_new' (Kd.R_new' (Kd.R_new' (Kd.R_new' ho0 (Kd.R_lt (by (with_reducible repeat (first | apply zS | apply zT)); exact HO_4.out))) (Kd.R_lt (by (with_reducible repeat (first | apply zS | apply zT)); exact HO_6.out))) (Kd.R_lt (by (with_reducible repeat (first | apply zS | apply zT)); exact HO_8.out))) (Kd.R_lt (by (with_reducible repeat (first | apply zS | apply zT)); exact HO_10.out))) (Kd.R_lt (by (with_reducible repeat (first | apply zS | apply zT)); exact HO471.out))) (below_size (by repeat (first | (with_reducible first | exact HB.out | apply zB | apply zN | apply below_drew1 | refine zE ?_ GE452.out) | exact HB.out)))); replace HO_4 := zA (zK (by (with_reducible repeat (first | apply zS | apply zT)); exact HO_4.out) (zM ho0) hb); replace HO_6 := zA (zK (by (with_reducible repeat (first | apply zS | apply zT)); exact HO_6.out) (zM ho0) hb); replace HO_8 := zA (zK (by (with_reducible repeat (first | apply zS | apply zT)); exact HO_8.out) (zM ho0) hb); replace HO_10 := zA (zK (by (with_reducible repeat (first | apply zS | apply zT)); exact HO_10.out) (zM ho0) hb); replace HO471 := zA (zK (by (with_reducible repeat (first | apply zS | apply zT)); exact HO471.out) (zM ho0) hb); replace BK452 := zA (zQ (g := gb452) (o := .cells #[.slice A0_0 l0_0.length c0_0, .slice A0_1 l0_1.length c0_1, .slice A0_2 l0_2.length c0_2, .slice (some ad468) l0_3.length c0_3] 27 (0, 0)) (by (with_reducible repeat (first | refine zG ?_ _ | refine zH ?_)); exact BK452.out) hb); replace HB := zA (below_step (by repeat (first | (with_reducible first | exact HB.out | apply zB | apply zN | apply below_drew1 | refine zE ?_ GE452.out) | exact HB.out)) hb); (try clear hb); (try clear hb2); (try clear hk); (try clear hi); (try clear ho0)) | ((with_reducible refine gate_builtin (b := .append) (xs := #[.tmp 75, .tmp 76]) rfl ?_); (try (refine gate_guard (by rfl) ?_; dsimp only)); at_builtin; refine Kd.R_append_rows (Kd.int .u8) (w0 := w) w.heap.size rfl (.tmp 75) (.tmp 76) 28 5 (.int .u8 0) 1 rfl Tryd.underlying28 info5 rfl (by decide) (by omega) v474 t473 t469 _ _ _ (fun k_ => some k_ ≠ (v455 : Value).ownBlock ∧ some k_ ≠ (v459 : Value).ownBlock ∧ some k_ ≠ (v463 : Value).ownBlock ∧ some k_ ≠ (.slice Ao30 x10_2.length co30 : Value).ownBlock ∧ some k_ ≠ (.slice Ao29 t469.length co29 : Value).ownBlock) (fun _ => False) rfl rfl ?aO ?aR (fun _ _ h => h) (fun _ h => h.elim) ?aF ?aB ?aS ?aL ?_; (case aR => repeat (first | exact (Kd.R_reads' HO471.out).2.2)); (case aB => exact (by repeat (first | (with_reducible first | exact HB.out | apply zB | apply zN | apply below_drew1 | refine zE ?_ GE452.out) | exact HB.out))); (case aF => exact (fun k_ hk => ⟨Kd.fresh' (Kd.R_lt (by (with_reducible repeat (first | apply zS | apply zT)); exact HO_4.out)) k_ hk, Kd.fresh' (Kd.R_lt (by (with_reducible repeat (first | apply zS | apply zT)); exact HO_6.out)) k_ hk, Kd.fresh' (Kd.R_lt (by (with_reducible repeat (first | apply zS | apply zT)); exact HO_8.out)) k_ hk, Kd.fresh' (Kd.R_lt (by (with_reducible repeat (first | apply zS | apply zT)); exact HO_10.out)) k_ hk, Kd.fresh' (Kd.R_lt (by (with_reducible repeat (first | apply zS | apply zT)); exact HO471.out)) k_ hk⟩)); (case aO => exact (by (with_reducible repeat (first | apply zS | apply zT)); exact Kd.R_mono HO475.out (fun _ hk => ⟨hk.1.1.1.1.2, ⟨hk.1.1.1.2, ⟨hk.1.1.2, ⟨hk.1.2, hk.2⟩⟩⟩⟩))); (case aS => exact (below_size (by repeat (first | (with_reducible first | exact HB.out | apply zB | apply zN | apply below_drew1 | refine zE ?_ GE452.out) | exact HB.out)))); (case aL => have := LMc26.out; omega); intro v477 w32 ho hb hg hat; rw [← Ny476.out] at ho; replace HO_4 := zA (Kd.R_after (ok := (fun k_ => some k_ ≠ (v459 : Value).ownBlock ∧ some k_ ≠ (v463 : Value).ownBlock ∧ some k_ ≠ (.slice Ao30 x10_2.length co30 : Value).ownBlock ∧ some k_ ≠ (.slice Ao29 t469.length co29 : Value).ownBlock)) (by (with_reducible repeat (first | apply zS | apply zT)); exact Kd.R_mono HO_4.out (fun _ hk => ⟨⟨hk.1.1.1, ⟨hk.1.1.2.1, ⟨hk.1.1.2.2, hk.1.2⟩⟩⟩, hk.2⟩)) hg hat); replace HO_6 := zA (Kd.R_after (ok := (fun k_ => some k_ ≠ (v455 : Value).ownBlock ∧ some k_ ≠ (v463 : Value).ownBlock ∧ some k_ ≠ (.slice Ao30 x10_2.length co30 : Value).ownBlock ∧ some k_ ≠ (.slice Ao29 t469.length co29 : Value).ownBlock)) (by (with_reducible repeat (first | apply zS | apply zT)); exact Kd.R_mono HO_6.out (fun _ hk => ⟨⟨hk.1.1.1, ⟨hk.1.1.2.1, ⟨hk.1.1.2.2, hk.1.2⟩⟩⟩, hk.2⟩)) hg hat); replace HO_8 := zA (Kd.R_after (ok := (fun k_ => some k_ ≠ (v455 : Value).ownBlock ∧ some k_ ≠ (v459 : Value).ownBlock ∧ some k_ ≠ (.slice Ao30 x10_2.length co30 : Value).ownBlock ∧ some k_ ≠ (.slice Ao29 t469.length co29 : Value).ownBlock)) (by (with_reducible repeat (first | apply zS | apply zT)); exact Kd.R_mono HO_8.out (fun _ hk => ⟨⟨hk.1.1.1, ⟨hk.1.1.2.1, ⟨hk.1.1.2.2, hk.1.2⟩⟩⟩, hk.2⟩)) hg hat); replace HO_10 := zA (Kd.R_after (ok := (fun k_ => some k_ ≠ (v455 : Value).ownBlock ∧ some k_ ≠ (v459 : Value).ownBlock ∧ some k_ ≠ (v463 : Value).ownBlock ∧ some k_ ≠ (.slice Ao29 t469.length co29 : Value).ownBlock)) (by (with_reducible repeat (first | apply zS | apply zT)); exact Kd.R_mono HO_10.out (fun _ hk => ⟨⟨hk.1.1.1, ⟨hk.1.1.2.1, ⟨hk.1.1.2.2, hk.1.2⟩⟩⟩, hk.2⟩)) hg hat); replace BK452 := zA (blk_grown (g := gb452) (o := .cells #[.slice A0_0 l0_0.length c0_0, .slice A0_1 l0_1.length c0_1, .slice A0_2 l0_2.length c0_2, .slice (some ad468) l0_3.length c0_3] 27 (0, 0)) (by (with_reducible repeat (first | refine zG ?_ _ | refine zH ?_)); exact BK452.out) hg (Kd.R_ne HO475.out BK452.out (by decide))); replace HO471 := zA (Kd.R_after (ok := (fun k_ => some k_ ≠ (v455 : Value).ownBlock ∧ some k_ ≠ (v459 : Value).ownBlock ∧ some k_ ≠ (v463 : Value).ownBlock ∧ some k_ ≠ (.slice Ao30 x10_2.length co30 : Value).ownBlock)) (by (with_reducible repeat (first | apply zS | apply zT)); exact Kd.R_mono HO471.out (fun _ hk => ⟨⟨hk.1.1.1.1.2, ⟨hk.1.1.1.2, ⟨hk.1.1.2, hk.1.2⟩⟩⟩, hk.2⟩)) hg hat); replace HB := zA (hb); have HO478 := zA (ho); clear HO475; clear ho hb hg hat))
          go_roundg k2
          case measure => have := HJ4.out; have := HK2.out; omega
          case rel => exact ⟨(y476), (wrap64 (x11_2 + 1)), (by first | rfl | (simp; done) | (simp [*]; done)), H', ⟨by have := HJ4.out; have := HK2.out; omega⟩, ⟨by (with_reducible repeat (first | apply zS | apply zT)); exact Kd.R_mono HO_4.out (fun _ hk => ⟨hk.1.1, ⟨hk.1.2.1, hk.2⟩⟩)⟩, ⟨by (with_reducible repeat (first | apply zS | apply zT)); exact Kd.R_mono HO_6.out (fun _ hk => ⟨hk.1.1, ⟨hk.1.2.1, hk.2⟩⟩)⟩, ⟨by (with_reducible repeat (first | apply zS | apply zT)); exact Kd.R_mono HO_8.out (fun _ hk => ⟨hk.1.1, ⟨hk.1.2.1, hk.2⟩⟩)⟩, ⟨by (with_reducible repeat (first | apply zS | apply zT)); exact Kd.R_mono HO478.out (fun _ hk => ⟨hk.1, ⟨hk.2.1, hk.2.2.1⟩⟩)⟩, ⟨by (with_reducible repeat (first | refine zG ?_ _ | refine zH ?_)); exact BK452.out⟩, ⟨by repeat (first | (with_reducible first | exact HB.out | apply zB | apply zN | apply below_drew1 | refine zE ?_ GE452.out) | exact HB.out)⟩⟩
         ·rw [if_neg c26] at H
          exact absurd H (by simp)
        ·replace c24 := Bool.eq_false_iff.mpr c24
         subst c24
         have H1 : (some (([] : List Int), false)) = some (r1, r2) := by rw [if_neg (show ¬ (false = true) by decide)] at H; exact H
         clear H
         have H := H1
         clear H1
         simp only [Option.some.injEq, Prod.mk.injEq] at H
         obtain ⟨rfl, rfl⟩ := H
         have hcz33_0 : wr.cell? ⟨gb452, 0, none⟩ = some (.slice A0_0 l0_0.length c0_0) := (zC BK452.out 0).trans rfl
         have hcz33_1 : wr.cell? ⟨gb452, 1, none⟩ = some (.slice A0_1 l0_1.length c0_1) := (zC BK452.out 1).trans rfl
         have hcz33_2 : wr.cell? ⟨gb452, 2, none⟩ = some (.slice A0_2 l0_2.length c0_2) := (zC BK452.out 2).trans rfl
         have hcz33_3 : wr.cell? ⟨gb452, 3, none⟩ = some (.slice A0_3 l0_3.length c0_3) := (zC BK452.out 3).trans rfl
         have hfz33_0 := zF BK452.out 0
         have hfz33_1 := zF BK452.out 1
         have hfz33_2 := zF BK452.out 2
         have hfz33_3 := zF BK452.out 3
         have p468 : 0 ≤ (x11_2 : Int) := zO (by first | (with_reducible assumption) | assumption)
         have q468 : x11_2 < (l0_3.length : Int) := zO (by first | (with_reducible assumption) | assumption)
         obtain ⟨ad468, A468_1, c468_1, A468_3, c468_3, A468_4, c468_4, e468, hx468_0, hx468_1, hx468_2, hx468_3, hx468_4, hl468_1, hi468_1, hl468_3, hi468_3, hl468_4, hi468_4⟩ := at_T48 HR0_3.out x11_2 p468 q468
         cases e468
         replace hx468_0 := (HB.out.cell (zL w _ hx468_0)).trans hx468_0
         replace hx468_1 := (HB.out.cell (zL w _ hx468_1)).trans hx468_1
         replace hx468_2 := (HB.out.cell (zL w _ hx468_2)).trans hx468_2
         replace hx468_3 := (HB.out.cell (zL w _ hx468_3)).trans hx468_3
         replace hx468_4 := (HB.out.cell (zL w _ hx468_4)).trans hx468_4
         have HR468_1 := zA hi468_1
         have HC468_1 := zA hl468_1
         clear hi468_1 hl468_1
         have HR468_3 := zA hi468_3
         have HC468_3 := zA hl468_3
         clear hi468_3 hl468_3
         have HR468_4 := zA hi468_4
         have HC468_4 := zA hl468_4
         clear hi468_4 hl468_4
         replace p468 := eq_true p468
         replace q468 := eq_true q468
         go_wp2_with (first | ((with_reducible refine gate_callee (f := 33) rfl ?_); refine goesL_ (some 67) rfl rfl Tryd.func33 (by kernel_rfl) rfl #[.agg #[.string ((rd_T48 l0_3 x11_2).f0), .slice A468_1 ((rd_T48 l0_3 x11_2).f1).length c468_1, .int .i64 ((rd_T48 l0_3 x11_2).f2), .slice A468_3 ((rd_T48 l0_3 x11_2).f3).length c468_3, .slice A468_4 ((rd_T48 l0_3 x11_2).f4).length c468_4]] rfl (by (try simp only [zm, zc, zn]); first | done | rfl | (simp only [zd, zt]; rfl)) ?_; (with_reducible refine (r15_Put.calls k2 ((rd_T48 l0_3 x11_2).f0) _ _ ((rd_T48 l0_3 x11_2).f1) ((rd_T48 l0_3 x11_2).f2) _ _ ((rd_T48 l0_3 x11_2).f3) _ _ ((rd_T48 l0_3 x11_2).f4) t469 false _ ?side1 ?side2 ?side3 ?side4 ?side5 ?side6 A23.out).mono ?_); (case side1 => repeat (first | exact (zD HR468_1.out HB.out))); (case side2 => exact HC468_1.out); (case side3 => repeat (first | exact (zD HR468_3.out HB.out))); (case side4 => exact HC468_3.out); (case side5 => repeat (first | exact (zD HR468_4.out HB.out))); (case side6 => exact HC468_4.out); rintro e w34 ⟨v470, rfl, ho0, hb⟩; refine ⟨_, rfl, ?_⟩; have HO471 := zA (Kd.R_lower (Kd.R_new' (Kd.R_new' (Kd.R_new' (Kd.R_new' ho0 (Kd.R_lt (by (with_reducible repeat (first | apply zS | apply zT)); exact HO_4.out))) (Kd.R_lt (by (with_reducible repeat (first | apply zS | apply zT)); exact HO_6.out))) (Kd.R_lt (by (with_reducible repeat (first | apply zS | apply zT)); exact HO_8.out))) (Kd.R_lt (by (with_reducible repeat (first | apply zS | apply zT)); exact HO_10.out))) (below_size (by repeat (first | (with_reducible first | exact HB.out | apply zB | apply zN | apply below_drew1 | refine zE ?_ GE452.out) | exact HB.out)))); replace HO_4 := zA (zK (by (with_reducible repeat (first | apply zS | apply zT)); exact HO_4.out) (zM ho0) hb); replace HO_6 := zA (zK (by (with_reducible repeat (first | apply zS | apply zT)); exact HO_6.out) (zM ho0) hb); replace HO_8 := zA (zK (by (with_reducible repeat (first | apply zS | apply zT)); exact HO_8.out) (zM ho0) hb); replace HO_10 := zA (zK (by (with_reducible repeat (first | apply zS | apply zT)); exact HO_10.out) (zM ho0) hb); replace BK452 := zA (zQ (g := gb452) (o := .cells #[.slice A0_0 l0_0.length c0_0, .slice A0_1 l0_1.length c0_1, .slice A0_2 l0_2.length c0_2, .slice (some ad468) l0_3.length c0_3] 27 (0, 0)) (by (with_reducible repeat (first | refine zG ?_ _ | refine zH ?_)); exact BK452.out) hb); replace HB := zA (below_step (by repeat (first | (with_reducible first | exact HB.out | apply zB | apply zN | apply below_drew1 | refine zE ?_ GE452.out) | exact HB.out)) hb); (try clear hb); (try clear hb2); (try clear hk); (try clear hi); (try clear ho0)))
         go_ret2
         exact ⟨_, by first | rfl | (simp [errW_none, errW_some] <;> rfl) | (simp [*, errW_none, errW_some] <;> rfl), by first | exact Kd.R_nil _ _ _ _ _ | exact Kd.N_nil _ _ _ _ _ | exact Kd.V_nil _ _ _ _ _ | exact Kd.Q_nil _ _ _ _ _ | exact Kd.S_nil _ _ _ _ _, by repeat (first | (with_reducible first | exact HB.out | apply zB | apply zN | apply below_drew1 | refine zE ?_ GE452.out) | exact HB.out)⟩
       ·rw [if_neg c22] at H
        exact absurd H (by simp)
      ·rw [if_neg c21] at H
       have c21b0 : decide (x11_2 < (l0_3.length : Int)) = false := decide_eq_false c21
       clear c21
       obtain ⟨y479, hy479⟩ : ∃ y_ : List Int, y_ = (([76, 66, 75, 49] : List Int)) := ⟨_, rfl⟩
       replace H : ((r16_section.f k2 y479 1 t453).bind fun t482 => ((r16_section.f k2 t482 2 t457).bind fun t485 => ((r16_section.f k2 t485 3 t461).bind fun t488 => ((r16_section.f k2 t488 4 x10_2).bind fun t491 => ((r02_Of.f k2 t491).bind fun t494 => ((r03_Put.f k2 t491 4 (wrap64 (t494))).bind fun t495 => (if (t495.length : Int) > 1048576 then (some (([] : List Int), false)) else (some (t495, true))))))))) = some (r1, r2) := by first | (rw [hy479]; with_reducible exact H) | (have H2_ := (zP _ _).symm.trans H; rw [hy479]; with_reducible exact H2_) | (have H2_ := (zP _ _).symm.trans H; with_reducible exact H2_) | with_reducible exact H | (rw [hy479]; exact H) | exact H
       have Ny479 := zA hy479
       clear hy479
       replace H := Option.bind_eq_some_iff.mp H
       obtain ⟨t482, A350, H⟩ := H
       replace H : ((r16_section.f k2 t482 2 t457).bind fun t485 => ((r16_section.f k2 t485 3 t461).bind fun t488 => ((r16_section.f k2 t488 4 x10_2).bind fun t491 => ((r02_Of.f k2 t491).bind fun t494 => ((r03_Put.f k2 t491 4 (wrap64 (t494))).bind fun t495 => (if (t495.length : Int) > 1048576 then (some (([] : List Int), false)) else (some (t495, true)))))))) = some (r1, r2) := H
       have A35 := zA A350
       clear A350
       replace H := Option.bind_eq_some_iff.mp H
       obtain ⟨t485, A360, H⟩ := H
       replace H : ((r16_section.f k2 t485 3 t461).bind fun t488 => ((r16_section.f k2 t488 4 x10_2).bind fun t491 => ((r02_Of.f k2 t491).bind fun t494 => ((r03_Put.f k2 t491 4 (wrap64 (t494))).bind fun t495 => (if (t495.length : Int) > 1048576 then (some (([] : List Int), false)) else (some (t495, true))))))) = some (r1, r2) := H
       have A36 := zA A360
       clear A360
       replace H := Option.bind_eq_some_iff.mp H
       obtain ⟨t488, A370, H⟩ := H
       replace H : ((r16_section.f k2 t488 4 x10_2).bind fun t491 => ((r02_Of.f k2 t491).bind fun t494 => ((r03_Put.f k2 t491 4 (wrap64 (t494))).bind fun t495 => (if (t495.length : Int) > 1048576 then (some (([] : List Int), false)) else (some (t495, true)))))) = some (r1, r2) := H
       have A37 := zA A370
       clear A370
       replace H := Option.bind_eq_some_iff.mp H
       obtain ⟨t491, A380, H⟩ := H
       replace H : ((r02_Of.f k2 t491).bind fun t494 => ((r03_Put.f k2 t491 4 (wrap64 (t494))).bind fun t495 => (if (t495.length : Int) > 1048576 then (some (([] : List Int), false)) else (some (t495, true))))) = some (r1, r2) := H
       have A38 := zA A380
       clear A380
       replace H := Option.bind_eq_some_iff.mp H
       obtain ⟨t494, A390, H⟩ := H
       replace H : ((r03_Put.f k2 t491 4 (wrap64 (t494))).bind fun t495 => (if (t495.length : Int) > 1048576 then (some (([] : List Int), false)) else (some (t495, true)))) = some (r1, r2) := H
       have A39 := zA A390
       clear A390
       replace H := Option.bind_eq_some_iff.mp H
       obtain ⟨t495, A400, H⟩ := H
       replace H : (if (t495.length : Int) > 1048576 then (some (([] : List Int), false)) else (some (t495, true))) = some (r1, r2) := H
       have A40 := zA A400
       clear A400
       by_cases c41 : (t495.length : Int) > 1048576
       ·rw [if_pos c41] at H
        have c41b0 : decide (1048576 < (t495.length : Int)) = true := decide_eq_true c41
        have c41b1 : decide (1048576 < t495.length) = true := decide_eq_true (by omega)
        clear c41
        simp only [Option.some.injEq, Prod.mk.injEq] at H
        obtain ⟨rfl, rfl⟩ := H
        have hcz42_0 : wr.cell? ⟨gb452, 0, none⟩ = some (.slice A0_0 l0_0.length c0_0) := (zC BK452.out 0).trans rfl
        have hcz42_1 : wr.cell? ⟨gb452, 1, none⟩ = some (.slice A0_1 l0_1.length c0_1) := (zC BK452.out 1).trans rfl
        have hcz42_2 : wr.cell? ⟨gb452, 2, none⟩ = some (.slice A0_2 l0_2.length c0_2) := (zC BK452.out 2).trans rfl
        have hcz42_3 : wr.cell? ⟨gb452, 3, none⟩ = some (.slice A0_3 l0_3.length c0_3) := (zC BK452.out 3).trans rfl
        have hfz42_0 := zF BK452.out 0
        have hfz42_1 := zF BK452.out 1
        have hfz42_2 := zF BK452.out 2
        have hfz42_3 := zF BK452.out 3
        go_wp2_with (first | ((with_reducible refine gate_dst (N := 78) rfl ?_); (try (refine gate_guard (by rfl) ?_; dsimp only)); refine Kd.R_lit (Kd.int .u8) _ 5 ?hg (N := 78) ?hd (xs := ([76, 66, 75, 49] : List Int)) (inner := [.int .u8 76, .int .u8 66, .int .u8 75, .int .u8 49]) (ok := fun _ => True) (okp := fun _ => True) ?hr ?hp (fun _ hk => hk) trivial (zX _ _) (z5 _) (by simp) ?_; (case hd => rfl); (case hg => rfl); (case hr => first | (go_simp; done) | (go_simp; rfl)); (case hp => exact (Reps.one (show Kd.M (Kd.int .u8) _ _ _ 76 [.int .u8 76] from rfl) (Reps.one (show Kd.M (Kd.int .u8) _ _ _ 66 [.int .u8 66] from rfl) (Reps.one (show Kd.M (Kd.int .u8) _ _ _ 75 [.int .u8 75] from rfl) (Reps.one (show Kd.M (Kd.int .u8) _ _ _ 49 [.int .u8 49] from rfl) (Reps.none _ _)))))); intro v480 w43 ho44 hb hg_ hnew_; clear hg_ hnew_; (first | rw [← Ny479.out] at ho44 | (simp only [Int.reduceToNat] at ho44; rw [← Ny479.out] at ho44)); have HO481 := zA (Kd.R_lower (Kd.R_new' (Kd.R_new' (Kd.R_new' (Kd.R_new' ho44 (Kd.R_lt (by (with_reducible repeat (first | apply zS | apply zT)); exact HO_4.out))) (Kd.R_lt (by (with_reducible repeat (first | apply zS | apply zT)); exact HO_6.out))) (Kd.R_lt (by (with_reducible repeat (first | apply zS | apply zT)); exact HO_8.out))) (Kd.R_lt (by (with_reducible repeat (first | apply zS | apply zT)); exact HO_10.out))) (below_size (by repeat (first | (with_reducible first | exact HB.out | apply zB | apply zN | apply below_drew1 | refine zE ?_ GE452.out) | exact HB.out)))); replace HO_4 := zA (zK (by (with_reducible repeat (first | apply zS | apply zT)); exact HO_4.out) (zM ho44) hb); replace HO_6 := zA (zK (by (with_reducible repeat (first | apply zS | apply zT)); exact HO_6.out) (zM ho44) hb); replace HO_8 := zA (zK (by (with_reducible repeat (first | apply zS | apply zT)); exact HO_8.out) (zM ho44) hb); replace HO_10 := zA (zK (by (with_reducible repeat (first | apply zS | apply zT)); exact HO_10.out) (zM ho44) hb); replace BK452 := zA (zQ (g := gb452) (o := .cells #[.slice A0_0 l0_0.length c0_0, .slice A0_1 l0_1.length c0_1, .slice A0_2 l0_2.length c0_2, .slice A0_3 l0_3.length c0_3] 27 (0, 0)) (by (with_reducible repeat (first | refine zG ?_ _ | refine zH ?_)); exact BK452.out) hb); replace HB := zA (below_step (by repeat (first | (with_reducible first | exact HB.out | apply zB | apply zN | apply below_drew1 | refine zE ?_ GE452.out) | exact HB.out)) hb); clear hb ho44; obtain ⟨Ao45, co45, eo45⟩ := Kd.R_slice HO481.out; subst eo45; obtain ⟨Ao46, co46, eo46⟩ := Kd.R_slice HO_4.out; subst eo46) | ((with_reducible refine gate_callee (f := 35) rfl ?_); refine goesL_ (some 81) rfl rfl Tryd.func35 (by kernel_rfl) rfl #[.slice Ao45 y479.length co45, .int .i64 1, .slice Ao46 t453.length co46] rfl (by (try simp only [zm, zc, zn]); first | done | rfl | (simp only [zd, zt]; rfl)) ?_; (with_reducible refine (r16_section.calls k2 _ _ y479 1 _ _ t453 t482 _ ?side1 ?side2 ?side3 ?side4 A35.out).mono ?_); (case side1 => repeat (first | exact (Kd.R_reads' HO481.out).2.2)); (case side2 => exact (Kd.R_reads' HO481.out).2.1); (case side3 => repeat (first | exact (Kd.R_reads' HO_4.out).2.2)); (case side4 => exact (Kd.R_reads' HO_4.out).2.1); rintro e w47 ⟨v483, rfl, ho0, hb⟩; refine ⟨_, rfl, ?_⟩; have HO484 := zA (Kd.R_lower (Kd.R_new' (Kd.R_new' (Kd.R_new' (Kd.R_new' (Kd.R_new' ho0 (Kd.R_lt (by (with_reducible repeat (first | apply zS | apply zT)); exact HO_4.out))) (Kd.R_lt (by (with_reducible repeat (first | apply zS | apply zT)); exact HO_6.out))) (Kd.R_lt (by (with_reducible repeat (first | apply zS | apply zT)); exact HO_8.out))) (Kd.R_lt (by (with_reducible repeat (first | apply zS | apply zT)); exact HO_10.out))) (Kd.R_lt (by (with_reducible repeat (first | apply zS | apply zT)); exact HO481.out))) (below_size (by repeat (first | (with_reducible first | exact HB.out | apply zB | apply zN | apply below_drew1 | refine zE ?_ GE452.out) | exact HB.out)))); replace HO_4 := zA (zK (by (with_reducible repeat (first | apply zS | apply zT)); exact HO_4.out) (zM ho0) hb); replace HO_6 := zA (zK (by (with_reducible repeat (first | apply zS | apply zT)); exact HO_6.out) (zM ho0) hb); replace HO_8 := zA (zK (by (with_reducible repeat (first | apply zS | apply zT)); exact HO_8.out) (zM ho0) hb); replace HO_10 := zA (zK (by (with_reducible repeat (first | apply zS | apply zT)); exact HO_10.out) (zM ho0) hb); replace HO481 := zA (zK (by (with_reducible repeat (first | apply zS | apply zT)); exact HO481.out) (zM ho0) hb); replace BK452 := zA (zQ (g := gb452) (o := .cells #[.slice A0_0 l0_0.length c0_0, .slice A0_1 l0_1.length c0_1, .slice A0_2 l0_2.length c0_2, .slice A0_3 l0_3.length c0_3] 27 (0, 0)) (by (with_reducible repeat (first | refine zG ?_ _ | refine zH ?_)); exact BK452.out) hb); replace HB := zA (below_step (by repeat (first | (with_reducible first | exact HB.out | apply zB | apply zN | apply below_drew1 | refine zE ?_ GE452.out) | exact HB.out)) hb); (try clear hb); (try clear hb2); (try clear hk); (try clear hi); (try clear ho0); obtain ⟨Ao48, co48, eo48⟩ := Kd.R_slice HO484.out; subst eo48; obtain ⟨Ao49, co49, eo49⟩ := Kd.R_slice HO_6.out; subst eo49) | ((with_reducible refine gate_callee (f := 35) rfl ?_); refine goesL_ (some 84) rfl rfl Tryd.func35 (by kernel_rfl) rfl #[.slice Ao48 t482.length co48, .int .i64 2, .slice Ao49 t457.length co49] rfl (by (try simp only [zm, zc, zn]); first | done | rfl | (simp only [zd, zt]; rfl)) ?_; (with_reducible refine (r16_section.calls k2 _ _ t482 2 _ _ t457 t485 _ ?side1 ?side2 ?side3 ?side4 A36.out).mono ?_); (case side1 => repeat (first | exact (Kd.R_reads' HO484.out).2.2)); (case side2 => exact (Kd.R_reads' HO484.out).2.1); (case side3 => repeat (first | exact (Kd.R_reads' HO_6.out).2.2)); (case side4 => exact (Kd.R_reads' HO_6.out).2.1); rintro e w50 ⟨v486, rfl, ho0, hb⟩; refine ⟨_, rfl, ?_⟩; have HO487 := zA (Kd.R_lower (Kd.R_new' (Kd.R_new' (Kd.R_new' (Kd.R_new' (Kd.R_new' (Kd.R_new' ho0 (Kd.R_lt (by (with_reducible repeat (first | apply zS | apply zT)); exact HO_4.out))) (Kd.R_lt (by (with_reducible repeat (first | apply zS | apply zT)); exact HO_6.out))) (Kd.R_lt (by (with_reducible repeat (first | apply zS | apply zT)); exact HO_8.out))) (Kd.R_lt (by (with_reducible repeat (first | apply zS | apply zT)); exact HO_10.out))) (Kd.R_lt (by (with_reducible repeat (first | apply zS | apply zT)); exact HO481.out))) (Kd.R_lt (by (with_reducible repeat (first | apply zS | apply zT)); exact HO484.out))) (below_size (by repeat (first | (with_reducible first | exact HB.out | apply zB | apply zN | apply below_drew1 | refine zE ?_ GE452.out) | exact HB.out)))); replace HO_4 := zA (zK (by (with_reducible repeat (first | apply zS | apply zT)); exact HO_4.out) (zM ho0) hb); replace HO_6 := zA (zK (by (with_reducible repeat (first | apply zS | apply zT)); exact HO_6.out) (zM ho0) hb); replace HO_8 := zA (zK (by (with_reducible repeat (first | apply zS | apply zT)); exact HO_8.out) (zM ho0) hb); replace HO_10 := zA (zK (by (with_reducible repeat (first | apply zS | apply zT)); exact HO_10.out) (zM ho0) hb); replace HO481 := zA (zK (by (with_reducible repeat (first | apply zS | apply zT)); exact HO481.out) (zM ho0) hb); replace HO484 := zA (zK (by (with_reducible repeat (first | apply zS | apply zT)); exact HO484.out) (zM ho0) hb); replace BK452 := zA (zQ (g := gb452) (o := .cells #[.slice A0_0 l0_0.length c0_0, .slice A0_1 l0_1.length c0_1, .slice A0_2 l0_2.length c0_2, .slice A0_3 l0_3.length c0_3] 27 (0, 0)) (by (with_reducible repeat (first | refine zG ?_ _ | refine zH ?_)); exact BK452.out) hb); replace HB := zA (below_step (by repeat (first | (with_reducible first | exact HB.out | apply zB | apply zN | apply below_drew1 | refine zE ?_ GE452.out) | exact HB.out)) hb); (try clear hb); (try clear hb2); (try clear hk); (try clear hi); (try clear ho0); obtain ⟨Ao51, co51, eo51⟩ := Kd.R_slice HO487.out; subst eo51; obtain ⟨Ao52, co52, eo52⟩ := Kd.R_slice HO_8.out; subst eo52) | ((with_reducible refine gate_callee (f := 35) rfl ?_); refine goesL_ (some 87) rfl rfl Tryd.func35 (by kernel_rfl) rfl #[.slice Ao51 t485.length co51, .int .i64 3, .slice Ao52 t461.length co52] rfl (by (try simp only [zm, zc, zn]); first | done | rfl | (simp only [zd, zt]; rfl)) ?_; (with_reducible refine (r16_section.calls k2 _ _ t485 3 _ _ t461 t488 _ ?side1 ?side2 ?side3 ?side4 A37.out).mono ?_); (case side1 => repeat (first | exact (Kd.R_reads' HO487.out).2.2)); (case side2 => exact (Kd.R_reads' HO487.out).2.1); (case side3 => repeat (first | exact (Kd.R_reads' HO_8.out).2.2)); (case side4 => exact (Kd.R_reads' HO_8.out).2.1); rintro e w53 ⟨v489, rfl, ho0, hb⟩; refine ⟨_, rfl, ?_⟩; have HO490 := zA (Kd.R_lower (Kd.R_new' (Kd.R_new' (Kd.R_new' (Kd.R_new' (Kd.R_new' (Kd.R_new' (Kd.R_new' ho0 (Kd.R_lt (by (with_reducible repeat (first | apply zS | apply zT)); exact HO_4.out))) (Kd.R_lt (by (with_reducible repeat (first | apply zS | apply zT)); exact HO_6.out))) (Kd.R_lt (by (with_reducible repeat (first | apply zS | apply zT)); exact HO_8.out))) (Kd.R_lt (by (with_reducible repeat (first | apply zS | apply zT)); exact HO_10.out))) (Kd.R_lt (by (with_reducible repeat (first | apply zS | apply zT)); exact HO481.out))) (Kd.R_lt (by (with_reducible repeat (first | apply zS | apply zT)); exact HO484.out))) (Kd.R_lt (by (with_reducible repeat (first | apply zS | apply zT)); exact HO487.out))) (below_size (by repeat (first | (with_reducible first | exact HB.out | apply zB | apply zN | apply below_drew1 | refine zE ?_ GE452.out) | exact HB.out)))); replace HO_4 := zA (zK (by (with_reducible repeat (first | apply zS | apply zT)); exact HO_4.out) (zM ho0) hb); replace HO_6 := zA (zK (by (with_reducible repeat (first | apply zS | apply zT)); exact HO_6.out) (zM ho0) hb); replace HO_8 := zA (zK (by (with_reducible repeat (first | apply zS | apply zT)); exact HO_8.out) (zM ho0) hb); replace HO_10 := zA (zK (by (with_reducible repeat (first | apply zS | apply zT)); exact HO_10.out) (zM ho0) hb); replace HO481 := zA (zK (by (with_reducible repeat (first | apply zS | apply zT)); exact HO481.out) (zM ho0) hb); replace HO484 := zA (zK (by (with_reducible repeat (first | apply zS | apply zT)); exact HO484.out) (zM ho0) hb); replace HO487 := zA (zK (by (with_reducible repeat (first | apply zS | apply zT)); exact HO487.out) (zM ho0) hb); replace BK452 := zA (zQ (g := gb452) (o := .cells #[.slice A0_0 l0_0.length c0_0, .slice A0_1 l0_1.length c0_1, .slice A0_2 l0_2.length c0_2, .slice A0_3 l0_3.length c0_3] 27 (0, 0)) (by (with_reducible repeat (first | refine zG ?_ _ | refine zH ?_)); exact BK452.out) hb); replace HB := zA (below_step (by repeat (first | (with_reducible first | exact HB.out | apply zB | apply zN | apply below_drew1 | refine zE ?_ GE452.out) | exact HB.out)) hb); (try clear hb); (try clear hb2); (try clear hk); (try clear hi); (try clear ho0); obtain ⟨Ao54, co54, eo54⟩ := Kd.R_slice HO490.out; subst eo54; obtain ⟨Ao55, co55, eo55⟩ := Kd.R_slice HO_10.out; subst eo55) | ((with_reducible refine gate_callee (f := 35) rfl ?_); refine goesL_ (some 90) rfl rfl Tryd.func35 (by kernel_rfl) rfl #[.slice Ao54 t488.length co54, .int .i64 4, .slice Ao55 x10_2.length co55] rfl (by (try simp only [zm, zc, zn]); first | done | rfl | (simp only [zd, zt]; rfl)) ?_; (with_reducible refine (r16_section.calls k2 _ _ t488 4 _ _ x10_2 t491 _ ?side1 ?side2 ?side3 ?side4 A38.out).mono ?_); (case side1 => repeat (first | exact (Kd.R_reads' HO490.out).2.2)); (case side2 => exact (Kd.R_reads' HO490.out).2.1); (case side3 => repeat (first | exact (Kd.R_reads' HO_10.out).2.2)); (case side4 => exact (Kd.R_reads' HO_10.out).2.1); rintro e w56 ⟨v492, rfl, ho0, hb⟩; refine ⟨_, rfl, ?_⟩; have HO493 := zA (Kd.R_lower (Kd.R_new' (Kd.R_new' (Kd.R_new' (Kd.R_new' (Kd.R_new' (Kd.R_new' (Kd.R_new' (Kd.R_new' ho0 (Kd.R_lt (by (with_reducible repeat (first | apply zS | apply zT)); exact HO_4.out))) (Kd.R_lt (by (with_reducible repeat (first | apply zS | apply zT)); exact HO_6.out))) (Kd.R_lt (by (with_reducible repeat (first | apply zS | apply zT)); exact HO_8.out))) (Kd.R_lt (by (with_reducible repeat (first | apply zS | apply zT)); exact HO_10.out))) (Kd.R_lt (by (with_reducible repeat (first | apply zS | apply zT)); exact HO481.out))) (Kd.R_lt (by (with_reducible repeat (first | apply zS | apply zT)); exact HO484.out))) (Kd.R_lt (by (with_reducible repeat (first | apply zS | apply zT)); exact HO487.out))) (Kd.R_lt (by (with_reducible repeat (first | apply zS | apply zT)); exact HO490.out))) (below_size (by repeat (first | (with_reducible first | exact HB.out | apply zB | apply zN | apply below_drew1 | refine zE ?_ GE452.out) | exact HB.out)))); replace HO_4 := zA (zK (by (with_reducible repeat (first | apply zS | apply zT)); exact HO_4.out) (zM ho0) hb); replace HO_6 := zA (zK (by (with_reducible repeat (first | apply zS | apply zT)); exact HO_6.out) (zM ho0) hb); replace HO_8 := zA (zK (by (with_reducible repeat (first | apply zS | apply zT)); exact HO_8.out) (zM ho0) hb); replace HO_10 := zA (zK (by (with_reducible repeat (first | apply zS | apply zT)); exact HO_10.out) (zM ho0) hb); replace HO481 := zA (zK (by (with_reducible repeat (first | apply zS | apply zT)); exact HO481.out) (zM ho0) hb); replace HO484 := zA (zK (by (with_reducible repeat (first | apply zS | apply zT)); exact HO484.out) (zM ho0) hb); replace HO487 := zA (zK (by (with_reducible repeat (first | apply zS | apply zT)); exact HO487.out) (zM ho0) hb); replace HO490 := zA (zK (by (with_reducible repeat (first | apply zS | apply zT)); exact HO490.out) (zM ho0) hb); replace BK452 := zA (zQ (g := gb452) (o := .cells #[.slice A0_0 l0_0.length c0_0, .slice A0_1 l0_1.length c0_1, .slice A0_2 l0_2.length c0_2, .slice A0_3 l0_3.length c0_3] 27 (0, 0)) (by (with_reducible repeat (first | refine zG ?_ _ | refine zH ?_)); exact BK452.out) hb); replace HB := zA (below_step (by repeat (first | (with_reducible first | exact HB.out | apply zB | apply zN | apply below_drew1 | refine zE ?_ GE452.out) | exact HB.out)) hb); (try clear hb); (try clear hb2); (try clear hk); (try clear hi); (try clear ho0); obtain ⟨Ao57, co57, eo57⟩ := Kd.R_slice HO493.out; subst eo57) | ((with_reducible refine gate_callee (f := 36) rfl ?_); refine goesL_ (some 93) rfl rfl Tryd.func36 (by kernel_rfl) rfl #[.slice Ao57 t491.length co57] rfl (by (try simp only [zm, zc, zn]); first | done | rfl | (simp only [zd, zt]; rfl)) ?_; (with_reducible refine (r02_Of.calls k2 _ _ t491 t494 _ ?side1 ?side2 A39.out).mono ?_); (case side1 => repeat (first | exact (Kd.R_reads' HO493.out).2.2)); (case side2 => exact (Kd.R_reads' HO493.out).2.1); rintro e w' ⟨rfl, ⟨nd, rfl⟩⟩; refine ⟨_, rfl, ?_⟩) | ((with_reducible refine gate_callee (f := 34) rfl ?_); refine goesL_ (some 95) rfl rfl Tryd.func34 (by kernel_rfl) rfl #[.slice Ao57 t491.length co57, .int .i64 4, .int .i64 (wrap64 (t494))] rfl (by (try simp only [zm, zc, zn]); first | done | rfl | (simp only [zd, zt]; rfl)) ?_; (with_reducible refine (r03_Put.calls k2 _ _ t491 4 (wrap64 (t494)) t495 _ ?side1 ?side2 A40.out).mono ?_); (case side1 => repeat (first | exact (Kd.R_reads' HO493.out).2.2)); (case side2 => exact (Kd.R_reads' HO493.out).2.1); rintro e w58 ⟨v496, rfl, ho0, hb⟩; refine ⟨_, rfl, ?_⟩; have HO497 := zA (Kd.R_lower (Kd.R_new' (Kd.R_new' (Kd.R_new' (Kd.R_new' (Kd.R_new' (Kd.R_new' (Kd.R_new' (Kd.R_new' (Kd.R_new' ho0 (Kd.R_lt (by (with_reducible repeat (first | apply zS | apply zT)); exact HO_4.out))) (Kd.R_lt (by (with_reducible repeat (first | apply zS | apply zT)); exact HO_6.out))) (Kd.R_lt (by (with_reducible repeat (first | apply zS | apply zT)); exact HO_8.out))) (Kd.R_lt (by (with_reducible repeat (first | apply zS | apply zT)); exact HO_10.out))) (Kd.R_lt (by (with_reducible repeat (first | apply zS | apply zT)); exact HO481.out))) (Kd.R_lt (by (with_reducible repeat (first | apply zS | apply zT)); exact HO484.out))) (Kd.R_lt (by (with_reducible repeat (first | apply zS | apply zT)); exact HO487.out))) (Kd.R_lt (by (with_reducible repeat (first | apply zS | apply zT)); exact HO490.out))) (Kd.R_lt (by (with_reducible repeat (first | apply zS | apply zT)); exact HO493.out))) (below_size (by repeat (first | (with_reducible first | exact HB.out | apply zB | apply zN | apply below_drew1 | refine zE ?_ GE452.out) | exact HB.out)))); replace HO_4 := zA (zK (by (with_reducible repeat (first | apply zS | apply zT)); exact HO_4.out) (zM ho0) hb); replace HO_6 := zA (zK (by (with_reducible repeat (first | apply zS | apply zT)); exact HO_6.out) (zM ho0) hb); replace HO_8 := zA (zK (by (with_reducible repeat (first | apply zS | apply zT)); exact HO_8.out) (zM ho0) hb); replace HO_10 := zA (zK (by (with_reducible repeat (first | apply zS | apply zT)); exact HO_10.out) (zM ho0) hb); replace HO481 := zA (zK (by (with_reducible repeat (first | apply zS | apply zT)); exact HO481.out) (zM ho0) hb); replace HO484 := zA (zK (by (with_reducible repeat (first | apply zS | apply zT)); exact HO484.out) (zM ho0) hb); replace HO487 := zA (zK (by (with_reducible repeat (first | apply zS | apply zT)); exact HO487.out) (zM ho0) hb); replace HO490 := zA (zK (by (with_reducible repeat (first | apply zS | apply zT)); exact HO490.out) (zM ho0) hb); replace HO493 := zA (zK (by (with_reducible repeat (first | apply zS | apply zT)); exact HO493.out) (zM ho0) hb); replace BK452 := zA (zQ (g := gb452) (o := .cells #[.slice A0_0 l0_0.length c0_0, .slice A0_1 l0_1.length c0_1, .slice A0_2 l0_2.length c0_2, .slice A0_3 l0_3.length c0_3] 27 (0, 0)) (by (with_reducible repeat (first | refine zG ?_ _ | refine zH ?_)); exact BK452.out) hb); replace HB := zA (below_step (by repeat (first | (with_reducible first | exact HB.out | apply zB | apply zN | apply below_drew1 | refine zE ?_ GE452.out) | exact HB.out)) hb); (try clear hb); (try clear hb2); (try clear hk); (try clear hi); (try clear ho0); obtain ⟨Ao59, co59, eo59⟩ := Kd.R_slice HO497.out; subst eo59))
        go_ret2
        exact ⟨_, by first | rfl | (simp [errW_none, errW_some] <;> rfl) | (simp [*, errW_none, errW_some] <;> rfl), by first | exact Kd.R_nil _ _ _ _ _ | exact Kd.N_nil _ _ _ _ _ | exact Kd.V_nil _ _ _ _ _ | exact Kd.Q_nil _ _ _ _ _ | exact Kd.S_nil _ _ _ _ _, by repeat (first | (with_reducible first | exact HB.out | apply zB | apply zN | apply below_drew1 | refine zE ?_ GE452.out) | exact HB.out)⟩
       ·rw [if_neg c41] at H
        have c41b0 : decide (1048576 < (t495.length : Int)) = false := decide_eq_false c41
        have c41b1 : decide (1048576 < t495.length) = false := decide_eq_false (by omega)
        clear c41
        simp only [Option.some.injEq, Prod.mk.injEq] at H
        obtain ⟨rfl, rfl⟩ := H
        have hcz60_0 : wr.cell? ⟨gb452, 0, none⟩ = some (.slice A0_0 l0_0.length c0_0) := (zC BK452.out 0).trans rfl
        have hcz60_1 : wr.cell? ⟨gb452, 1, none⟩ = some (.slice A0_1 l0_1.length c0_1) := (zC BK452.out 1).trans rfl
        have hcz60_2 : wr.cell? ⟨gb452, 2, none⟩ = some (.slice A0_2 l0_2.length c0_2) := (zC BK452.out 2).trans rfl
        have hcz60_3 : wr.cell? ⟨gb452, 3, none⟩ = some (.slice A0_3 l0_3.length c0_3) := (zC BK452.out 3).trans rfl
        have hfz60_0 := zF BK452.out 0
        have hfz60_1 := zF BK452.out 1
        have hfz60_2 := zF BK452.out 2
        have hfz60_3 := zF BK452.out 3
        go_wp2_with (first | ((with_reducible refine gate_dst (N := 78) rfl ?_); (try (refine gate_guard (by rfl) ?_; dsimp only)); refine Kd.R_lit (Kd.int .u8) _ 5 ?hg (N := 78) ?hd (xs := ([76, 66, 75, 49] : List Int)) (inner := [.int .u8 76, .int .u8 66, .int .u8 75, .int .u8 49]) (ok := fun _ => True) (okp := fun _ => True) ?hr ?hp (fun _ hk => hk) trivial (zX _ _) (z5 _) (by simp) ?_; (case hd => rfl); (case hg => rfl); (case hr => first | (go_simp; done) | (go_simp; rfl)); (case hp => exact (Reps.one (show Kd.M (Kd.int .u8) _ _ _ 76 [.int .u8 76] from rfl) (Reps.one (show Kd.M (Kd.int .u8) _ _ _ 66 [.int .u8 66] from rfl) (Reps.one (show Kd.M (Kd.int .u8) _ _ _ 75 [.int .u8 75] from rfl) (Reps.one (show Kd.M (Kd.int .u8) _ _ _ 49 [.int .u8 49] from rfl) (Reps.none _ _)))))); intro v480 w61 ho62 hb hg_ hnew_; clear hg_ hnew_; (first | rw [← Ny479.out] at ho62 | (simp only [Int.reduceToNat] at ho62; rw [← Ny479.out] at ho62)); have HO481 := zA (Kd.R_lower (Kd.R_new' (Kd.R_new' (Kd.R_new' (Kd.R_new' ho62 (Kd.R_lt (by (with_reducible repeat (first | apply zS | apply zT)); exact HO_4.out))) (Kd.R_lt (by (with_reducible repeat (first | apply zS | apply zT)); exact HO_6.out))) (Kd.R_lt (by (with_reducible repeat (first | apply zS | apply zT)); exact HO_8.out))) (Kd.R_lt (by (with_reducible repeat (first | apply zS | apply zT)); exact HO_10.out))) (below_size (by repeat (first | (with_reducible first | exact HB.out | apply zB | apply zN | apply below_drew1 | refine zE ?_ GE452.out) | exact HB.out)))); replace HO_4 := zA (zK (by (with_reducible repeat (first | apply zS | apply zT)); exact HO_4.out) (zM ho62) hb); replace HO_6 := zA (zK (by (with_reducible repeat (first | apply zS | apply zT)); exact HO_6.out) (zM ho62) hb); replace HO_8 := zA (zK (by (with_reducible repeat (first | apply zS | apply zT)); exact HO_8.out) (zM ho62) hb); replace HO_10 := zA (zK (by (with_reducible repeat (first | apply zS | apply zT)); exact HO_10.out) (zM ho62) hb); replace BK452 := zA (zQ (g := gb452) (o := .cells #[.slice A0_0 l0_0.length c0_0, .slice A0_1 l0_1.length c0_1, .slice A0_2 l0_2.length c0_2, .slice A0_3 l0_3.length c0_3] 27 (0, 0)) (by (with_reducible repeat (first | refine zG ?_ _ | refine zH ?_)); exact BK452.out) hb); replace HB := zA (below_step (by repeat (first | (with_reducible first | exact HB.out | apply zB | apply zN | apply below_drew1 | refine zE ?_ GE452.out) | exact HB.out)) hb); clear hb ho62; obtain ⟨Ao63, co63, eo63⟩ := Kd.R_slice HO481.out; subst eo63; obtain ⟨Ao64, co64, eo64⟩ := Kd.R_slice HO_4.out; subst eo64) | ((with_reducible refine gate_callee (f := 35) rfl ?_); refine goesL_ (some 81) rfl rfl Tryd.func35 (by kernel_rfl) rfl #[.slice Ao63 y479.length co63, .int .i64 1, .slice Ao64 t453.length co64] rfl (by (try simp only [zm, zc, zn]); first | done | rfl | (simp only [zd, zt]; rfl)) ?_; (with_reducible refine (r16_section.calls k2 _ _ y479 1 _ _ t453 t482 _ ?side1 ?side2 ?side3 ?side4 A35.out).mono ?_); (case side1 => repeat (first | exact (Kd.R_reads' HO481.out).2.2)); (case side2 => exact (Kd.R_reads' HO481.out).2.1); (case side3 => repeat (first | exact (Kd.R_reads' HO_4.out).2.2)); (case side4 => exact (Kd.R_reads' HO_4.out).2.1); rintro e w65 ⟨v483, rfl, ho0, hb⟩; refine ⟨_, rfl, ?_⟩; have HO484 := zA (Kd.R_lower (Kd.R_new' (Kd.R_new' (Kd.R_new' (Kd.R_new' (Kd.R_new' ho0 (Kd.R_lt (by (with_reducible repeat (first | apply zS | apply zT)); exact HO_4.out))) (Kd.R_lt (by (with_reducible repeat (first | apply zS | apply zT)); exact HO_6.out))) (Kd.R_lt (by (with_reducible repeat (first | apply zS | apply zT)); exact HO_8.out))) (Kd.R_lt (by (with_reducible repeat (first | apply zS | apply zT)); exact HO_10.out))) (Kd.R_lt (by (with_reducible repeat (first | apply zS | apply zT)); exact HO481.out))) (below_size (by repeat (first | (with_reducible first | exact HB.out | apply zB | apply zN | apply below_drew1 | refine zE ?_ GE452.out) | exact HB.out)))); replace HO_4 := zA (zK (by (with_reducible repeat (first | apply zS | apply zT)); exact HO_4.out) (zM ho0) hb); replace HO_6 := zA (zK (by (with_reducible repeat (first | apply zS | apply zT)); exact HO_6.out) (zM ho0) hb); replace HO_8 := zA (zK (by (with_reducible repeat (first | apply zS | apply zT)); exact HO_8.out) (zM ho0) hb); replace HO_10 := zA (zK (by (with_reducible repeat (first | apply zS | apply zT)); exact HO_10.out) (zM ho0) hb); replace HO481 := zA (zK (by (with_reducible repeat (first | apply zS | apply zT)); exact HO481.out) (zM ho0) hb); replace BK452 := zA (zQ (g := gb452) (o := .cells #[.slice A0_0 l0_0.length c0_0, .slice A0_1 l0_1.length c0_1, .slice A0_2 l0_2.length c0_2, .slice A0_3 l0_3.length c0_3] 27 (0, 0)) (by (with_reducible repeat (first | refine zG ?_ _ | refine zH ?_)); exact BK452.out) hb); replace HB := zA (below_step (by repeat (first | (with_reducible first | exact HB.out | apply zB | apply zN | apply below_drew1 | refine zE ?_ GE452.out) | exact HB.out)) hb); (try clear hb); (try clear hb2); (try clear hk); (try clear hi); (try clear ho0); obtain ⟨Ao66, co66, eo66⟩ := Kd.R_slice HO484.out; subst eo66; obtain ⟨Ao67, co67, eo67⟩ := Kd.R_slice HO_6.out; subst eo67) | ((with_reducible refine gate_callee (f := 35) rfl ?_); refine goesL_ (some 84) rfl rfl Tryd.func35 (by kernel_rfl) rfl #[.slice Ao66 t482.length co66, .int .i64 2, .slice Ao67 t457.length co67] rfl (by (try simp only [zm, zc, zn]); first | done | rfl | (simp only [zd, zt]; rfl)) ?_; (with_reducible refine (r16_section.calls k2 _ _ t482 2 _ _ t457 t485 _ ?side1 ?side2 ?side3 ?side4 A36.out).mono ?_); (case side1 => repeat (first | exact (Kd.R_reads' HO484.out).2.2)); (case side2 => exact (Kd.R_reads' HO484.out).2.1); (case side3 => repeat (first | exact (Kd.R_reads' HO_6.out).2.2)); (case side4 => exact (Kd.R_reads' HO_6.out).2.1); rintro e w68 ⟨v486, rfl, ho0, hb⟩; refine ⟨_, rfl, ?_⟩; have HO487 := zA (Kd.R_lower (Kd.R_new' (Kd.R_new' (Kd.R_new' (Kd.R_new' (Kd.R_new' (Kd.R_new' ho0 (Kd.R_lt (by (with_reducible repeat (first | apply zS | apply zT)); exact HO_4.out))) (Kd.R_lt (by (with_reducible repeat (first | apply zS | apply zT)); exact HO_6.out))) (Kd.R_lt (by (with_reducible repeat (first | apply zS | apply zT)); exact HO_8.out))) (Kd.R_lt (by (with_reducible repeat (first | apply zS | apply zT)); exact HO_10.out))) (Kd.R_lt (by (with_reducible repeat (first | apply zS | apply zT)); exact HO481.out))) (Kd.R_lt (by (with_reducible repeat (first | apply zS | apply zT)); exact HO484.out))) (below_size (by repeat (first | (with_reducible first | exact HB.out | apply zB | apply zN | apply below_drew1 | refine zE ?_ GE452.out) | exact HB.out)))); replace HO_4 := zA (zK (by (with_reducible repeat (first | apply zS | apply zT)); exact HO_4.out) (zM ho0) hb); replace HO_6 := zA (zK (by (with_reducible repeat (first | apply zS | apply zT)); exact HO_6.out) (zM ho0) hb); replace HO_8 := zA (zK (by (with_reducible repeat (first | apply zS | apply zT)); exact HO_8.out) (zM ho0) hb); replace HO_10 := zA (zK (by (with_reducible repeat (first | apply zS | apply zT)); exact HO_10.out) (zM ho0) hb); replace HO481 := zA (zK (by (with_reducible repeat (first | apply zS | apply zT)); exact HO481.out) (zM ho0) hb); replace HO484 := zA (zK (by (with_reducible repeat (first | apply zS | apply zT)); exact HO484.out) (zM ho0) hb); replace BK452 := zA (zQ (g := gb452) (o := .cells #[.slice A0_0 l0_0.length c0_0, .slice A0_1 l0_1.length c0_1, .slice A0_2 l0_2.length c0_2, .slice A0_3 l0_3.length c0_3] 27 (0, 0)) (by (with_reducible repeat (first | refine zG ?_ _ | refine zH ?_)); exact BK452.out) hb); replace HB := zA (below_step (by repeat (first | (with_reducible first | exact HB.out | apply zB | apply zN | apply below_drew1 | refine zE ?_ GE452.out) | exact HB.out)) hb); (try clear hb); (try clear hb2); (try clear hk); (try clear hi); (try clear ho0); obtain ⟨Ao69, co69, eo69⟩ := Kd.R_slice HO487.out; subst eo69; obtain ⟨Ao70, co70, eo70⟩ := Kd.R_slice HO_8.out; subst eo70) | ((with_reducible refine gate_callee (f := 35) rfl ?_); refine goesL_ (some 87) rfl rfl Tryd.func35 (by kernel_rfl) rfl #[.slice Ao69 t485.length co69, .int .i64 3, .slice Ao70 t461.length co70] rfl (by (try simp only [zm, zc, zn]); first | done | rfl | (simp only [zd, zt]; rfl)) ?_; (with_reducible refine (r16_section.calls k2 _ _ t485 3 _ _ t461 t488 _ ?side1 ?side2 ?side3 ?side4 A37.out).mono ?_); (case side1 => repeat (first | exact (Kd.R_reads' HO487.out).2.2)); (case side2 => exact (Kd.R_reads' HO487.out).2.1); (case side3 => repeat (first | exact (Kd.R_reads' HO_8.out).2.2)); (case side4 => exact (Kd.R_reads' HO_8.out).2.1); rintro e w71 ⟨v489, rfl, ho0, hb⟩; refine ⟨_, rfl, ?_⟩; have HO490 := zA (Kd.R_lower (Kd.R_new' (Kd.R_new' (Kd.R_new' (Kd.R_new' (Kd.R_new' (Kd.R_new' (Kd.R_new' ho0 (Kd.R_lt (by (with_reducible repeat (first | apply zS | apply zT)); exact HO_4.out))) (Kd.R_lt (by (with_reducible repeat (first | apply zS | apply zT)); exact HO_6.out))) (Kd.R_lt (by (with_reducible repeat (first | apply zS | apply zT)); exact HO_8.out))) (Kd.R_lt (by (with_reducible repeat (first | apply zS | apply zT)); exact HO_10.out))) (Kd.R_lt (by (with_reducible repeat (first | apply zS | apply zT)); exact HO481.out))) (Kd.R_lt (by (with_reducible repeat (first | apply zS | apply zT)); exact HO484.out))) (Kd.R_lt (by (with_reducible repeat (first | apply zS | apply zT)); exact HO487.out))) (below_size (by repeat (first | (with_reducible first | exact HB.out | apply zB | apply zN | apply below_drew1 | refine zE ?_ GE452.out) | exact HB.out)))); replace HO_4 := zA (zK (by (with_reducible repeat (first | apply zS | apply zT)); exact HO_4.out) (zM ho0) hb); replace HO_6 := zA (zK (by (with_reducible repeat (first | apply zS | apply zT)); exact HO_6.out) (zM ho0) hb); replace HO_8 := zA (zK (by (with_reducible repeat (first | apply zS | apply zT)); exact HO_8.out) (zM ho0) hb); replace HO_10 := zA (zK (by (with_reducible repeat (first | apply zS | apply zT)); exact HO_10.out) (zM ho0) hb); replace HO481 := zA (zK (by (with_reducible repeat (first | apply zS | apply zT)); exact HO481.out) (zM ho0) hb); replace HO484 := zA (zK (by (with_reducible repeat (first | apply zS | apply zT)); exact HO484.out) (zM ho0) hb); replace HO487 := zA (zK (by (with_reducible repeat (first | apply zS | apply zT)); exact HO487.out) (zM ho0) hb); replace BK452 := zA (zQ (g := gb452) (o := .cells #[.slice A0_0 l0_0.length c0_0, .slice A0_1 l0_1.length c0_1, .slice A0_2 l0_2.length c0_2, .slice A0_3 l0_3.length c0_3] 27 (0, 0)) (by (with_reducible repeat (first | refine zG ?_ _ | refine zH ?_)); exact BK452.out) hb); replace HB := zA (below_step (by repeat (first | (with_reducible first | exact HB.out | apply zB | apply zN | apply below_drew1 | refine zE ?_ GE452.out) | exact HB.out)) hb); (try clear hb); (try clear hb2); (try clear hk); (try clear hi); (try clear ho0); obtain ⟨Ao72, co72, eo72⟩ := Kd.R_slice HO490.out; subst eo72; obtain ⟨Ao73, co73, eo73⟩ := Kd.R_slice HO_10.out; subst eo73) | ((with_reducible refine gate_callee (f := 35) rfl ?_); refine goesL_ (some 90) rfl rfl Tryd.func35 (by kernel_rfl) rfl #[.slice Ao72 t488.length co72, .int .i64 4, .slice Ao73 x10_2.length co73] rfl (by (try simp only [zm, zc, zn]); first | done | rfl | (simp only [zd, zt]; rfl)) ?_; (with_reducible refine (r16_section.calls k2 _ _ t488 4 _ _ x10_2 t491 _ ?side1 ?side2 ?side3 ?side4 A38.out).mono ?_); (case side1 => repeat (first | exact (Kd.R_reads' HO490.out).2.2)); (case side2 => exact (Kd.R_reads' HO490.out).2.1); (case side3 => repeat (first | exact (Kd.R_reads' HO_10.out).2.2)); (case side4 => exact (Kd.R_reads' HO_10.out).2.1); rintro e w74 ⟨v492, rfl, ho0, hb⟩; refine ⟨_, rfl, ?_⟩; have HO493 := zA (Kd.R_lower (Kd.R_new' (Kd.R_new' (Kd.R_new' (Kd.R_new' (Kd.R_new' (Kd.R_new' (Kd.R_new' (Kd.R_new' ho0 (Kd.R_lt (by (with_reducible repeat (first | apply zS | apply zT)); exact HO_4.out))) (Kd.R_lt (by (with_reducible repeat (first | apply zS | apply zT)); exact HO_6.out))) (Kd.R_lt (by (with_reducible repeat (first | apply zS | apply zT)); exact HO_8.out))) (Kd.R_lt (by (with_reducible repeat (first | apply zS | apply zT)); exact HO_10.out))) (Kd.R_lt (by (with_reducible repeat (first | apply zS | apply zT)); exact HO481.out))) (Kd.R_lt (by (with_reducible repeat (first | apply zS | apply zT)); exact HO484.out))) (Kd.R_lt (by (with_reducible repeat (first | apply zS | apply zT)); exact HO487.out))) (Kd.R_lt (by (with_reducible repeat (first | apply zS | apply zT)); exact HO490.out))) (below_size (by repeat (first | (with_reducible first | exact HB.out | apply zB | apply zN | apply below_drew1 | refine zE ?_ GE452.out) | exact HB.out)))); replace HO_4 := zA (zK (by (with_reducible repeat (first | apply zS | apply zT)); exact HO_4.out) (zM ho0) hb); replace HO_6 := zA (zK (by (with_reducible repeat (first | apply zS | apply zT)); exact HO_6.out) (zM ho0) hb); replace HO_8 := zA (zK (by (with_reducible repeat (first | apply zS | apply zT)); exact HO_8.out) (zM ho0) hb); replace HO_10 := zA (zK (by (with_reducible repeat (first | apply zS | apply zT)); exact HO_10.out) (zM ho0) hb); replace HO481 := zA (zK (by (with_reducible repeat (first | apply zS | apply zT)); exact HO481.out) (zM ho0) hb); replace HO484 := zA (zK (by (with_reducible repeat (first | apply zS | apply zT)); exact HO484.out) (zM ho0) hb); replace HO487 := zA (zK (by (with_reducible repeat (first | apply zS | apply zT)); exact HO487.out) (zM ho0) hb); replace HO490 := zA (zK (by (with_reducible repeat (first | apply zS | apply zT)); exact HO490.out) (zM ho0) hb); replace BK452 := zA (zQ (g := gb452) (o := .cells #[.slice A0_0 l0_0.length c0_0, .slice A0_1 l0_1.length c0_1, .slice A0_2 l0_2.length c0_2, .slice A0_3 l0_3.length c0_3] 27 (0, 0)) (by (with_reducible repeat (first | refine zG ?_ _ | refine zH ?_)); exact BK452.out) hb); replace HB := zA (below_step (by repeat (first | (with_reducible first | exact HB.out | apply zB | apply zN | apply below_drew1 | refine zE ?_ GE452.out) | exact HB.out)) hb); (try clear hb); (try clear hb2); (try clear hk); (try clear hi); (try clear ho0); obtain ⟨Ao75, co75, eo75⟩ := Kd.R_slice HO493.out; subst eo75) | ((with_reducible refine gate_callee (f := 36) rfl ?_); refine goesL_ (some 93) rfl rfl Tryd.func36 (by kernel_rfl) rfl #[.slice Ao75 t491.length co75] rfl (by (try simp only [zm, zc, zn]); first | done | rfl | (simp only [zd, zt]; rfl)) ?_; (with_reducible refine (r02_Of.calls k2 _ _ t491 t494 _ ?side1 ?side2 A39.out).mono ?_); (case side1 => repeat (first | exact (Kd.R_reads' HO493.out).2.2)); (case side2 => exact (Kd.R_reads' HO493.out).2.1); rintro e w' ⟨rfl, ⟨nd, rfl⟩⟩; refine ⟨_, rfl, ?_⟩) | ((with_reducible refine gate_callee (f := 34) rfl ?_); refine goesL_ (some 95) rfl rfl Tryd.func34 (by kernel_rfl) rfl #[.slice Ao75 t491.length co75, .int .i64 4, .int .i64 (wrap64 (t494))] rfl (by (try simp only [zm, zc, zn]); first | done | rfl | (simp only [zd, zt]; rfl)) ?_; (with_reducible refine (r03_Put.calls k2 _ _ t491 4 (wrap64 (t494)) t495 _ ?side1 ?side2 A40.out).mono ?_); (case side1 => repeat (first | exact (Kd.R_reads' HO493.out).2.2)); (case side2 => exact (Kd.R_reads' HO493.out).2.1); rintro e w76 ⟨v496, rfl, ho0, hb⟩; refine ⟨_, rfl, ?_⟩; have HO497 := zA (Kd.R_lower (Kd.R_new' (Kd.R_new' (Kd.R_new' (Kd.R_new' (Kd.R_new' (Kd.R_new' (Kd.R_new' (Kd.R_new' (Kd.R_new' ho0 (Kd.R_lt (by (with_reducible repeat (first | apply zS | apply zT)); exact HO_4.out))) (Kd.R_lt (by (with_reducible repeat (first | apply zS | apply zT)); exact HO_6.out))) (Kd.R_lt (by (with_reducible repeat (first | apply zS | apply zT)); exact HO_8.out))) (Kd.R_lt (by (with_reducible repeat (first | apply zS | apply zT)); exact HO_10.out))) (Kd.R_lt (by (with_reducible repeat (first | apply zS | apply zT)); exact HO481.out))) (Kd.R_lt (by (with_reducible repeat (first | apply zS | apply zT)); exact HO484.out))) (Kd.R_lt (by (with_reducible repeat (first | apply zS | apply zT)); exact HO487.out))) (Kd.R_lt (by (with_reducible repeat (first | apply zS | apply zT)); exact HO490.out))) (Kd.R_lt (by (with_reducible repeat (first | apply zS | apply zT)); exact HO493.out))) (below_size (by repeat (first | (with_reducible first | exact HB.out | apply zB | apply zN | apply below_drew1 | refine zE ?_ GE452.out) | exact HB.out)))); replace HO_4 := zA (zK (by (with_reducible repeat (first | apply zS | apply zT)); exact HO_4.out) (zM ho0) hb); replace HO_6 := zA (zK (by (with_reducible repeat (first | apply zS | apply zT)); exact HO_6.out) (zM ho0) hb); replace HO_8 := zA (zK (by (with_reducible repeat (first | apply zS | apply zT)); exact HO_8.out) (zM ho0) hb); replace HO_10 := zA (zK (by (with_reducible repeat (first | apply zS | apply zT)); exact HO_10.out) (zM ho0) hb); replace HO481 := zA (zK (by (with_reducible repeat (first | apply zS | apply zT)); exact HO481.out) (zM ho0) hb); replace HO484 := zA (zK (by (with_reducible repeat (first | apply zS | apply zT)); exact HO484.out) (zM ho0) hb); replace HO487 := zA (zK (by (with_reducible repeat (first | apply zS | apply zT)); exact HO487.out) (zM ho0) hb); replace HO490 := zA (zK (by (with_reducible repeat (first | apply zS | apply zT)); exact HO490.out) (zM ho0) hb); replace HO493 := zA (zK (by (with_reducible repeat (first | apply zS | apply zT)); exact HO493.out) (zM ho0) hb); replace BK452 := zA (zQ (g := gb452) (o := .cells #[.slice A0_0 l0_0.length c0_0, .slice A0_1 l0_1.length c0_1, .slice A0_2 l0_2.length c0_2, .slice A0_3 l0_3.length c0_3] 27 (0, 0)) (by (with_reducible repeat (first | refine zG ?_ _ | refine zH ?_)); exact BK452.out) hb); replace HB := zA (below_step (by repeat (first | (with_reducible first | exact HB.out | apply zB | apply zN | apply below_drew1 | refine zE ?_ GE452.out) | exact HB.out)) hb); (try clear hb); (try clear hb2); (try clear hk); (try clear hi); (try clear ho0); obtain ⟨Ao77, co77, eo77⟩ := Kd.R_slice HO497.out; subst eo77))
        go_ret2
        exact ⟨_, by first | rfl | (simp [errW_none, errW_some] <;> rfl) | (simp [*, errW_none, errW_some] <;> rfl), by (with_reducible repeat (first | apply zS | apply zT)); exact Kd.R_mono HO497.out (fun _ hk => trivial), by repeat (first | (with_reducible first | exact HB.out | apply zB | apply zN | apply below_drew1 | refine zE ?_ GE452.out) | exact HB.out)⟩

/-! ### box_Fits: function 13 -/
def box_Fits.f (l0_0 : List (S68)) (l0_1 : List (S41)) (l0_2 : List (S43)) (l0_3 : List (S48)) : Option (Bool) := (box_Encode.f l0_0 l0_1 l0_2 l0_3).bind fun bt499 => (some bt499.2)
set_option maxHeartbeats 8000000 in
set_option maxRecDepth 100000 in
theorem box_Fits.calls (A0_0 : Option Addr) (c0_0 : Nat) (l0_0 : List (S68)) (A0_1 : Option Addr) (c0_1 : Nat) (l0_1 : List (S41)) (A0_2 : Option Addr) (c0_2 : Nat) (l0_2 : List (S43)) (A0_3 : Option Addr) (c0_3 : Nat) (l0_3 : List (S48)) (r : Bool) (w : World) (hr0_0 : Kd.C k68 w A0_0 l0_0.length l0_0) (hc0_0 : l0_0.length ≤ c0_0) (hr0_1 : Kd.C k41 w A0_1 l0_1.length l0_1) (hc0_1 : l0_1.length ≤ c0_1) (hr0_2 : Kd.C k43 w A0_2 l0_2.length l0_2) (hc0_2 : l0_2.length ≤ c0_2) (hr0_3 : Kd.C k48 w A0_3 l0_3.length l0_3) (hc0_3 : l0_3.length ≤ c0_3) (h : box_Fits.f l0_0 l0_1 l0_2 l0_3 = some r) (hL_ : LaidOps w) :
  Calls Tryd.prog 13 #[.agg #[.slice A0_0 l0_0.length c0_0, .slice A0_1 l0_1.length c0_1, .slice A0_2 l0_2.length c0_2, .slice A0_3 l0_3.length c0_3]] w fun e w' => e = .returned (.bool r) ∧ Below w.heap.size w w' := by
 have HL_ := zA hL_
 clear hL_
 have hu27 := Tryd.underlying27
 have HR0_0 := zA hr0_0
 have HC0_0 := zA hc0_0
 clear hr0_0 hc0_0
 have HR0_1 := zA hr0_1
 have HC0_1 := zA hc0_1
 clear hr0_1 hc0_1
 have HR0_2 := zA hr0_2
 have HC0_2 := zA hc0_2
 clear hr0_2 hc0_2
 have HR0_3 := zA hr0_3
 have HC0_3 := zA hc0_3
 clear hr0_3 hc0_3
 have HB := zA (zX w.heap.size w)
 have H : ((box_Encode.f l0_0 l0_1 l0_2 l0_3).bind fun bt499 => (some bt499.2)) = some r := h
 clear h
 replace H := Option.bind_eq_some_iff.mp H
 obtain ⟨⟨t499, t502⟩, A20, H⟩ := H
 replace H : (some t502) = some r := H
 have A2 := zA A20
 clear A20
 obtain rfl := zJ H
 go_enter Tryd.func13, Tryd.ntmps13
 go_wp2_with (first | ((with_reducible refine gate_dst (N := 1) rfl ?_); refine box_event ?hg (N := 1) ?hd (cs := #[.slice A0_0 l0_0.length c0_0, .slice A0_1 l0_1.length c0_1, .slice A0_2 l0_2.length c0_2, .slice A0_3 l0_3.length c0_3]) (t := 27) ?hr ?_; (case hd => rfl); (case hg => rfl); (case hr => first | (go_simp; done) | (go_simp; rfl)); intro gb498 hg w3 hbox hb; have BK498 := zA (hbox); have GW498 := zA ((by rw [hg]; exact (below_size (by repeat (first | (with_reducible first | exact HB.out | apply zB | apply zN | apply below_drew1) | exact HB.out))) : w.heap.size ≤ gb498)); have GE498 := GW498; replace HB := zA (below_step (by repeat (first | (with_reducible first | exact HB.out | apply zB | apply zN | apply below_drew1) | exact HB.out)) hb); clear hb hbox hg; have hcz4_0 : w3.cell? ⟨gb498, 0, none⟩ = some (.slice A0_0 l0_0.length c0_0) := (zC BK498.out 0).trans rfl; have hcz4_1 : w3.cell? ⟨gb498, 1, none⟩ = some (.slice A0_1 l0_1.length c0_1) := (zC BK498.out 1).trans rfl; have hcz4_2 : w3.cell? ⟨gb498, 2, none⟩ = some (.slice A0_2 l0_2.length c0_2) := (zC BK498.out 2).trans rfl; have hcz4_3 : w3.cell? ⟨gb498, 3, none⟩ = some (.slice A0_3 l0_3.length c0_3) := (zC BK498.out 3).trans rfl; have hfz4_0 := zF BK498.out 0; have hfz4_1 := zF BK498.out 1; have hfz4_2 := zF BK498.out 2; have hfz4_3 := zF BK498.out 3) | ((with_reducible refine gate_callee (f := 9) rfl ?_); refine goesL_ (some 7) rfl rfl Tryd.func9 (by kernel_rfl) rfl #[.agg #[.slice A0_0 l0_0.length c0_0, .slice A0_1 l0_1.length c0_1, .slice A0_2 l0_2.length c0_2, .slice A0_3 l0_3.length c0_3]] rfl (by (try simp only [zm, zc, zn]); first | done | rfl | (simp only [zd, zt]; rfl)) ?_; (with_reducible refine (box_Encode.calls _ _ l0_0 _ _ l0_1 _ _ l0_2 _ _ l0_3 t499 t502 _ ?side1 ?side2 ?side3 ?side4 ?side5 ?side6 ?side7 ?side8 A2.out (LaidOps.below HL_.out (by repeat (first | (with_reducible first | exact HB.out | apply zB | apply zN | apply below_drew1 | refine zE ?_ GE498.out) | exact HB.out)))).mono ?_); (case side1 => repeat (first | exact (zD HR0_0.out HB.out))); (case side2 => exact HC0_0.out); (case side3 => repeat (first | exact (zD HR0_1.out HB.out))); (case side4 => exact HC0_1.out); (case side5 => repeat (first | exact (zD HR0_2.out HB.out))); (case side6 => exact HC0_2.out); (case side7 => repeat (first | exact (zD HR0_3.out HB.out))); (case side8 => exact HC0_3.out); rintro e w5 ⟨v500, rfl, ho0, hb⟩; refine ⟨_, rfl, ?_⟩; have HO501 := zA (Kd.R_lower ho0 (below_size (by repeat (first | (with_reducible first | exact HB.out | apply zB | apply zN | apply below_drew1 | refine zE ?_ GE498.out) | exact HB.out)))); replace BK498 := zA (zQ (g := gb498) (o := .cells #[.slice A0_0 l0_0.length c0_0, .slice A0_1 l0_1.length c0_1, .slice A0_2 l0_2.length c0_2, .slice A0_3 l0_3.length c0_3] 27 (0, 0)) (by (with_reducible repeat (first | refine zG ?_ _ | refine zH ?_)); exact BK498.out) hb); replace HB := zA (below_step (by repeat (first | (with_reducible first | exact HB.out | apply zB | apply zN | apply below_drew1 | refine zE ?_ GE498.out) | exact HB.out)) hb); (try clear hb); (try clear hb2); (try clear hk); (try clear hi); (try clear ho0)))
 go_ret
 exact ⟨by first | rfl | (simp [errW_none, errW_some] <;> rfl) | (simp [*, errW_none, errW_some] <;> rfl), by repeat (first | (with_reducible first | exact HB.out | apply zB | apply zN | apply below_drew1 | refine zE ?_ GE498.out) | exact HB.out)⟩

end Go.Proofs.YtdbfgfgbjheibaaDoor.PBx
