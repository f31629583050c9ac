/- A region that draws the order of its first m operations and does the others, which wait for all before them, one after another: the others may store. No conditions. -/
import Derived.Lib.TrailingZeros
import Derived.Lib.BitFns
import Derived.Test.YtkkikddocgckbaaDoorZBitsHoldab
import Derived.Test.YtkkikddocgckbaaDoorZBitsHoldac
import Derived.Test.YtkkikddocgckbaaDoorZBitsHoldad
section
/- Printed by a program of this session (wip/pg.py, over the print of the kit): functions, their Lean twins, and the proofs that the calls come to them; each under the conditions that it names. -/
namespace Go.Proofs.YtkkikddocgckbaaDoor.PBit
open Go.Proofs.YtkkikddocgckbaaDoor.Given
open Go.RowKit Go.Proofs.YtkkikddocgckbaaDoorW.PrintWords Go.Proofs.YtkkikddocgckbaaDoorW.PrintLast Go.Proofs.YtkkikddocgckbaaDoorW.PrintMore
attribute [local go_sem] max2_int min2_int max_two min_two max_three min_three max_four min_four   -- for this text's walks alone
set_option linter.unusedVariables false
set_option linter.unusedSimpArgs false

/-! ### bits_Set_Has: function 10 -/
def bits_Set_Has.f (a0_0 : Int) (l0_1 : List Int) (a1 : Int) : Option (Bool) := if a1 ≥ 0 then (if a1 < a0_0 then (if 0 ≤ (wrap64 (Int.tdiv a1 64)) then (if (wrap64 (Int.tdiv a1 64)) < (l0_1.length : Int) then (if 0 ≤ (Int.tmod a1 64) then (some ((Go.bits .and .u64 (shr .u64 (rd l0_1 (wrap64 (Int.tdiv a1 64))) (Int.tmod a1 64)) 1) == 1)) else (none)) else (none)) else (none)) else (some false)) else (some false)
set_option maxHeartbeats 8000000 in
set_option maxRecDepth 100000 in
theorem bits_Set_Has.calls (a0_0 : Int) (A0_1 : Option Addr) (c0_1 : Nat) (l0_1 : List Int) (a1 : Int) (r : Bool) (w : World) (hr0_1 : Kd.C (Kd.int .u64) w A0_1 l0_1.length l0_1) (hc0_1 : l0_1.length ≤ c0_1) (h : bits_Set_Has.f a0_0 l0_1 a1 = some r) :
    Calls Tryd.prog 10 #[.agg #[.int .i64 a0_0, .slice A0_1 l0_1.length c0_1], .int .i64 a1] w fun e w' => e = .returned (.bool r) ∧ Below w.heap.size w w' := by
  have hu26 := Tryd.underlying26
  have HR0_1 := Aside0.mk hr0_1
  have HC0_1 := Aside0.mk hc0_1
  clear hr0_1 hc0_1
  have HB := Aside0.mk (Below.refl w.heap.size w)
  have H : (if a1 ≥ 0 then (if a1 < a0_0 then (if 0 ≤ (wrap64 (Int.tdiv a1 64)) then (if (wrap64 (Int.tdiv a1 64)) < (l0_1.length : Int) then (if 0 ≤ (Int.tmod a1 64) then (some ((Go.bits .and .u64 (shr .u64 (rd l0_1 (wrap64 (Int.tdiv a1 64))) (Int.tmod a1 64)) 1) == 1)) else (none)) else (none)) else (none)) else (some false)) else (some false)) = some r := h
  clear h
  by_cases c3 : a1 ≥ 0
  · rw [if_pos c3] at H
    have c3b0 : decide (0 ≤ a1) = true := decide_eq_true c3
    clear c3
    by_cases c4 : a1 < a0_0
    · rw [if_pos c4] at H
      have c4b0 : decide (a1 < a0_0) = true := decide_eq_true c4
      clear c4
      obtain ⟨ji5, hji5⟩ : ∃ j_ : Int, (wrap64 (Int.tdiv a1 64)) = j_ := ⟨_, rfl⟩
      replace H : (if 0 ≤ (ji5) then (if (ji5) < (l0_1.length : Int) then (if 0 ≤ (Int.tmod a1 64) then (some ((Go.bits .and .u64 (shr .u64 (rd l0_1 (ji5)) (Int.tmod a1 64)) 1) == 1)) else (none)) else (none)) else (none)) = some r := by first | (rw [hji5] at H; exact H) | (simp only [hji5] at H ⊢; exact H)
      have hji5w : (IntKind.i64.wrap (Int.tdiv a1 64)) = ji5 := (i64_w _).trans hji5
      by_cases c6 : 0 ≤ (ji5)
      · rw [if_pos c6] at H
        have c6b0 : decide (0 ≤ (ji5)) = true := decide_eq_true c6
        clear c6
        by_cases c7 : (ji5) < (l0_1.length : Int)
        · rw [if_pos c7] at H
          have c7b0 : decide ((ji5) < (l0_1.length : Int)) = true := decide_eq_true c7
          clear c7
          obtain ⟨ji8, hji8⟩ : ∃ j_ : Int, (Int.tmod a1 64) = j_ := ⟨_, rfl⟩
          replace H : (if 0 ≤ (ji8) then (some ((Go.bits .and .u64 (shr .u64 (rd l0_1 (ji5)) (ji8)) 1) == 1)) else (none)) = some r := by first | (rw [hji8] at H; exact H) | (simp only [hji8] at H ⊢; exact H)
          by_cases c9 : 0 ≤ (ji8)
          · rw [if_pos c9] at H
            have c9b0 := eq_true c9
            have c9b1 : decide (0 ≤ (ji8)) = true := decide_eq_true c9
            clear c9
            obtain ⟨ji10, hji10⟩ : ∃ j_ : Int, (shr .u64 (rd l0_1 (ji5)) (ji8)) = j_ := ⟨_, rfl⟩
            replace H : (some ((Go.bits .and .u64 (ji10) 1) == 1)) = some r := by first | (rw [hji10] at H; exact H) | (simp only [hji10] at H ⊢; exact H)
            have hji10_ : ((rd l0_1 (ji5)) / 2 ^ min (ji8).toNat 64) = ji10 := hji10
            have hji10z : (ji8) ≤ 64 → ((rd l0_1 (ji5)) / 2 ^ (ji8).toNat) = ji10 := shr_small hji10
            obtain rfl := Option.some.inj H
            go_enter Tryd.func10, Tryd.ntmps10
            go_wp2_with (first | ((with_reducible refine gate_dst (N := 2) rfl ?_); refine box_event ?hg (N := 2) ?hd (cs := #[.int .i64 a0_0, .slice A0_1 l0_1.length c0_1]) (t := 26) ?hr ?_; (case hd => rfl); (case hg => rfl); (case hr => first | (go_simp; done) | (go_simp; rfl)); intro gb189 hg w11 hbox hb; have n0_ := Aside0.mk (below_step (by repeat (first | (with_reducible first | exact HB.out | apply below_alloc | apply pw_below_drewN | apply below_drew1) | exact HB.out)) hb); have n1_ := Aside0.mk (hbox); have n2_ := Aside0.mk ((by rw [hg]; exact (below_size (by repeat (first | (with_reducible first | exact HB.out | apply below_alloc | apply pw_below_drewN | apply below_drew1) | exact HB.out))) : w.heap.size ≤ gb189)); have n3_ := Aside0.mk ((by rw [hg]; exact (below_size (by repeat (first | (with_reducible first | exact HB.out | apply below_alloc | apply pw_below_drewN | apply below_drew1) | exact HB.out))) : w.heap.size ≤ gb189)); clear HB; have HB := n0_; have BK189 := n1_; have GW189 := n2_; have GE189 := n3_; clear n0_ n1_ n2_ n3_; clear hb hbox hg; have hcz12_0 : w11.cell? ⟨gb189, 0, none⟩ = some (.int .i64 a0_0) := (blk_cell BK189.out 0).trans rfl; have hcz12_1 : w11.cell? ⟨gb189, 1, none⟩ = some (.slice A0_1 l0_1.length c0_1) := (blk_cell BK189.out 1).trans rfl; have hfz12_0 := blk_frozen BK189.out 0; have hfz12_1 := blk_frozen BK189.out 1; have p190 : 0 ≤ ((ji5) : Int) := of_decide_eq_true (by first | (with_reducible assumption) | assumption); have q190 : (ji5) < (l0_1.length : Int) := of_decide_eq_true (by first | (with_reducible assumption) | assumption); obtain ⟨ad190, e190, hx190_0⟩ := Kd.at_int HR0_1.out (ji5) p190 q190; cases e190; replace hx190_0 := (HB.out.cell (World.block_lt_of_cell? w _ hx190_0)).trans hx190_0; replace p190 := eq_true p190; replace q190 := eq_true q190))
            go_ret
            exact ⟨by first | rfl | (simp [errW_none, errW_some] <;> rfl) | (simp only [← hji5, ← hji8, ← hji10]; first | rfl | (simp [errW_none, errW_some] <;> rfl)) | (simp [*, errW_none, errW_some] <;> rfl), by repeat (first | (with_reducible first | exact HB.out | apply below_alloc | apply pw_below_drewN | apply below_drew1 | refine below_set ?_ GE189.out) | exact HB.out)⟩
          · rw [if_neg c9] at H
            exact absurd H (by simp)
        · rw [if_neg c7] at H
          exact absurd H (by simp)
      · rw [if_neg c6] at H
        exact absurd H (by simp)
    · rw [if_neg c4] at H
      have c4b0 : decide (a1 < a0_0) = false := decide_eq_false c4
      clear c4
      obtain rfl := Option.some.inj H
      go_enter Tryd.func10, Tryd.ntmps10
      go_wp2_with (first | ((with_reducible refine gate_dst (N := 2) rfl ?_); refine box_event ?hg (N := 2) ?hd (cs := #[.int .i64 a0_0, .slice A0_1 l0_1.length c0_1]) (t := 26) ?hr ?_; (case hd => rfl); (case hg => rfl); (case hr => first | (go_simp; done) | (go_simp; rfl)); intro gb189 hg w13 hbox hb; have n0_ := Aside0.mk (below_step (by repeat (first | (with_reducible first | exact HB.out | apply below_alloc | apply pw_below_drewN | apply below_drew1) | exact HB.out)) hb); have n1_ := Aside0.mk (hbox); have n2_ := Aside0.mk ((by rw [hg]; exact (below_size (by repeat (first | (with_reducible first | exact HB.out | apply below_alloc | apply pw_below_drewN | apply below_drew1) | exact HB.out))) : w.heap.size ≤ gb189)); have n3_ := Aside0.mk ((by rw [hg]; exact (below_size (by repeat (first | (with_reducible first | exact HB.out | apply below_alloc | apply pw_below_drewN | apply below_drew1) | exact HB.out))) : w.heap.size ≤ gb189)); clear HB; have HB := n0_; have BK189 := n1_; have GW189 := n2_; have GE189 := n3_; clear n0_ n1_ n2_ n3_; clear hb hbox hg; have hcz14_0 : w13.cell? ⟨gb189, 0, none⟩ = some (.int .i64 a0_0) := (blk_cell BK189.out 0).trans rfl; have hcz14_1 : w13.cell? ⟨gb189, 1, none⟩ = some (.slice A0_1 l0_1.length c0_1) := (blk_cell BK189.out 1).trans rfl; have hfz14_0 := blk_frozen BK189.out 0; have hfz14_1 := blk_frozen BK189.out 1))
      go_ret
      exact ⟨by first | rfl | (simp [errW_none, errW_some] <;> rfl) | (simp [*, errW_none, errW_some] <;> rfl), by repeat (first | (with_reducible first | exact HB.out | apply below_alloc | apply pw_below_drewN | apply below_drew1 | refine below_set ?_ GE189.out) | exact HB.out)⟩
  · rw [if_neg c3] at H
    have c3b0 : decide (0 ≤ a1) = false := decide_eq_false c3
    clear c3
    obtain rfl := Option.some.inj H
    go_enter Tryd.func10, Tryd.ntmps10
    go_wp2_with (first | ((with_reducible refine gate_dst (N := 2) rfl ?_); refine box_event ?hg (N := 2) ?hd (cs := #[.int .i64 a0_0, .slice A0_1 l0_1.length c0_1]) (t := 26) ?hr ?_; (case hd => rfl); (case hg => rfl); (case hr => first | (go_simp; done) | (go_simp; rfl)); intro gb189 hg w15 hbox hb; have n0_ := Aside0.mk (below_step (by repeat (first | (with_reducible first | exact HB.out | apply below_alloc | apply pw_below_drewN | apply below_drew1) | exact HB.out)) hb); have n1_ := Aside0.mk (hbox); have n2_ := Aside0.mk ((by rw [hg]; exact (below_size (by repeat (first | (with_reducible first | exact HB.out | apply below_alloc | apply pw_below_drewN | apply below_drew1) | exact HB.out))) : w.heap.size ≤ gb189)); have n3_ := Aside0.mk ((by rw [hg]; exact (below_size (by repeat (first | (with_reducible first | exact HB.out | apply below_alloc | apply pw_below_drewN | apply below_drew1) | exact HB.out))) : w.heap.size ≤ gb189)); clear HB; have HB := n0_; have BK189 := n1_; have GW189 := n2_; have GE189 := n3_; clear n0_ n1_ n2_ n3_; clear hb hbox hg))
    go_ret
    exact ⟨by first | rfl | (simp [errW_none, errW_some] <;> rfl) | (simp [*, errW_none, errW_some] <;> rfl), by repeat (first | (with_reducible first | exact HB.out | apply below_alloc | apply pw_below_drewN | apply below_drew1 | refine below_set ?_ GE189.out) | exact HB.out)⟩

/-! ### ladderbackref06_Has: function 11 -/
def ladderbackref06_Has.f (l0 : List Bool) (a1 : Int) : Option (Bool) := if a1 ≥ 0 then (if a1 < (l0.length : Int) then (if 0 ≤ a1 then (some (rdOf false l0 a1)) else (none)) else (some false)) else (some false)
set_option maxHeartbeats 8000000 in
set_option maxRecDepth 100000 in
theorem ladderbackref06_Has.calls (A0 : Option Addr) (c0 : Nat) (l0 : List Bool) (a1 : Int) (r : Bool) (w : World) (hr0 : Kd.C Kd.bool w A0 l0.length l0) (hc0 : l0.length ≤ c0) (h : ladderbackref06_Has.f l0 a1 = some r) :
    Calls Tryd.prog 11 #[.slice A0 l0.length c0, .int .i64 a1] w fun e w' => e = .returned (.bool r) ∧ Drawn0 w w' := by
  have HR0 := Aside0.mk hr0
  have HC0 := Aside0.mk hc0
  clear hr0 hc0
  have H : (if a1 ≥ 0 then (if a1 < (l0.length : Int) then (if 0 ≤ a1 then (some (rdOf false l0 a1)) else (none)) else (some false)) else (some false)) = some r := h
  clear h
  by_cases c3 : a1 ≥ 0
  · rw [if_pos c3] at H
    have c3b0 : decide (0 ≤ a1) = true := decide_eq_true c3
    clear c3
    by_cases c4 : a1 < (l0.length : Int)
    · rw [if_pos c4] at H
      have c4b0 : decide (a1 < (l0.length : Int)) = true := decide_eq_true c4
      clear c4
      by_cases c5 : 0 ≤ a1
      · rw [if_pos c5] at H
        have c5b0 : decide (0 ≤ a1) = true := decide_eq_true c5
        clear c5
        obtain rfl := Option.some.inj H
        have p191 : 0 ≤ (a1 : Int) := of_decide_eq_true (by first | (with_reducible assumption) | assumption)
        have q191 : a1 < (l0.length : Int) := of_decide_eq_true (by first | (with_reducible assumption) | assumption)
        obtain ⟨ad191, e191, hx191_0⟩ := Kd.at_bool HR0.out a1 p191 q191
        cases e191
        replace p191 := eq_true p191
        replace q191 := eq_true q191
        go_enter Tryd.func11, Tryd.ntmps11
        go_wp2
        go_ret
        exact ⟨by first | rfl | (simp; done) | (simp [*]; done), by repeat (first | exact Drawn0.refl _ | apply Drawn0.step)⟩
      · rw [if_neg c5] at H
        exact absurd H (by simp)
    · rw [if_neg c4] at H
      have c4b0 : decide (a1 < (l0.length : Int)) = false := decide_eq_false c4
      clear c4
      obtain rfl := Option.some.inj H
      go_enter Tryd.func11, Tryd.ntmps11
      go_wp2
      go_ret
      exact ⟨by first | rfl | (simp; done) | (simp [*]; done), by repeat (first | exact Drawn0.refl _ | apply Drawn0.step)⟩
  · rw [if_neg c3] at H
    have c3b0 : decide (0 ≤ a1) = false := decide_eq_false c3
    clear c3
    obtain rfl := Option.some.inj H
    go_enter Tryd.func11, Tryd.ntmps11
    go_wp2
    go_ret
    exact ⟨by first | rfl | (simp; done) | (simp [*]; done), by repeat (first | exact Drawn0.refl _ | apply Drawn0.step)⟩

/-! ### bits_All: function 12 -/
def bits_All.l0 : Nat → Int → Int → Int → List Int → Option (Int × List Int)
  | 0, _, _, _, _ => none
  | k + 1, x8, x9, x198000, x198001 => if x9 < x8 then (if 0 ≤ (wrap64 (Int.tdiv x9 64)) then (if (wrap64 (Int.tdiv x9 64)) < (x198001.length : Int) then (if 0 ≤ (Int.tmod x9 64) then (bits_All.l0 k x8 (wrap64 (x9 + 1)) x198000 (x198001.set ((wrap64 (Int.tdiv x9 64)) : Int).toNat (Go.bits .or .u64 (rd x198001 (wrap64 (Int.tdiv x9 64))) (shl .u64 1 (Int.tmod x9 64))))) else (none)) else (none)) else (none)) else (some (x198000, x198001))
def bits_All.f (k : Nat) (a0 : Int) : Option (Int × List Int) := (bits_New.f a0).bind fun bt193 => (bits_All.l0 k bt193.1 0 bt193.1 bt193.2)
def bits_All.T5 : Bool × List (List Nat × List Nat) := (true, [([], []), ([0], [0]), ([], []), ([2], [2]), ([1, 3], [1, 3]), ([4], [4]), ([], []), ([6], [6]), ([7], [7]), ([5, 8], [5, 8]), ([1, 3, 0, 1, 2, 3, 4, 5, 6, 7, 8, 9], [1, 3]), ([10, 9, 0, 1, 2, 3, 4, 5, 6, 7, 8, 9], [9, 10])])
def bits_All.B5 : List Nat := [0, 1, 0, 4, 15, 31, 0, 64, 192, 511, 1023, 2047]
theorem bits_All.tab5 : rtab .any (opsOf Tryd.f12 5) = bits_All.T5 := by kernel_rfl
theorem bits_All.bits5 : waitsOk bits_All.T5.2 bits_All.B5 = true := by kernel_rfl
set_option maxHeartbeats 8000000 in
set_option maxRecDepth 100000 in
theorem bits_All.calls (k : Nat) (a0 : Int) (r1 : Int) (r2 : List Int) (w : World) (h : bits_All.f k a0 = some (r1, r2)) :
    Calls Tryd.prog 12 #[.int .i64 a0] w fun e w' => ∃ v1_ : Value, e = .returned (.agg #[.int .i64 r1, v1_]) ∧ Kd.R (Kd.int .u64) 45 w' w.heap.size (fun _ => True) v1_ r2 ∧ Below w.heap.size w w' := by
  have hu26 := Tryd.underlying26
  have HB := Aside0.mk (Below.refl w.heap.size w)
  have H : ((bits_New.f a0).bind fun bt193 => (bits_All.l0 k bt193.1 0 bt193.1 bt193.2)) = some (r1, r2) := h
  clear h
  replace H := Option.bind_eq_some_iff.mp H
  obtain ⟨⟨t193, t194⟩, A20, H⟩ := H
  replace H : (bits_All.l0 k t193 0 t193 t194) = some (r1, r2) := H
  have A2 := Aside0.mk A20
  clear A20
  have H' := Aside0.mk H
  clear H
  go_enter Tryd.func12, Tryd.ntmps12
  go_wp2_with (first | ((with_reducible refine gate_dst (N := 2) rfl ?_); refine box_event ?hg (N := 2) ?hd (cs := #[.int .i64 0, .slice none 0 0]) (t := 26) ?hr ?_; (case hd => rfl); (case hg => rfl); (case hr => first | (go_simp; done) | (go_simp; rfl)); intro gb192 hg w3 hbox hb; have n0_ := Aside0.mk (below_step (by repeat (first | (with_reducible first | exact HB.out | apply below_alloc | apply pw_below_drewN | apply below_drew1) | exact HB.out)) hb); have n1_ := Aside0.mk (hbox); have n2_ := Aside0.mk ((by rw [hg]; exact (below_size (by repeat (first | (with_reducible first | exact HB.out | apply below_alloc | apply pw_below_drewN | apply below_drew1) | exact HB.out))) : w.heap.size ≤ gb192)); have n3_ := Aside0.mk ((by rw [hg]; exact (below_size (by repeat (first | (with_reducible first | exact HB.out | apply below_alloc | apply pw_below_drewN | apply below_drew1) | exact HB.out))) : w.heap.size ≤ gb192)); clear HB; have HB := n0_; have BK192 := n1_; have GW192 := n2_; have GE192 := n3_; clear n0_ n1_ n2_ n3_; clear hb hbox hg) | ((with_reducible refine gate_callee (f := 20) rfl ?_); refine goesL_ (some 6) rfl rfl Tryd.func20 (by kernel_rfl) rfl #[.int .i64 a0] rfl (by (try simp only [List.map_toArray, List.map_cons, List.map_nil]); first | done | rfl | (simp only [List.length_drop, List.length_take]; rfl)) ?_; (with_reducible refine (bits_New.calls a0 t193 t194 _ A2.out).mono ?_); rintro e w4 ⟨v195, rfl, ho0, hb⟩; refine ⟨_, rfl, ?_⟩; have n0_ := Aside0.mk (Kd.R_lower ho0 (below_size (by repeat (first | (with_reducible first | exact HB.out | apply below_alloc | apply pw_below_drewN | apply below_drew1 | refine below_set ?_ GE192.out) | exact HB.out)))); have n1_ := Aside0.mk (blk_below (g := gb192) (o := .cells #[.int .i64 0, .slice none 0 0] 26 (0, 0)) (by (with_reducible repeat (first | refine blk_drewN ?_ _ | refine blk_drew ?_ | refine blk_alloc ?_ _)); exact BK192.out) hb); have n2_ := Aside0.mk (below_step (by repeat (first | (with_reducible first | exact HB.out | apply below_alloc | apply pw_below_drewN | apply below_drew1 | refine below_set ?_ GE192.out) | exact HB.out)) hb); clear BK192; clear HB; have HO196 := n0_; have BK192 := n1_; have HB := n2_; clear n0_ n1_ n2_; (try clear hb); (try clear hb2); (try clear hk); (try clear hi); (try clear ho0)) | ((with_reducible refine gate_dst (N := 3) rfl ?_); refine box_event ?hg (N := 3) ?hd (cs := #[.int .i64 0, .slice none 0 0]) (t := 26) ?hr ?_; (case hd => rfl); (case hg => rfl); (case hr => first | (go_simp; done) | (go_simp; rfl)); intro gb197 hg w5 hbox hb; have n0_ := Aside0.mk (Kd.R_below (by (with_reducible repeat (first | apply Kd.R_alloc | apply Kd.R_drewN | apply Kd.R_drew)); exact HO196.out) hb); have n1_ := Aside0.mk (blk_below (g := gb192) (o := .cells #[.int .i64 0, .slice none 0 0] 26 (0, 0)) (by (with_reducible repeat (first | refine blk_drewN ?_ _ | refine blk_drew ?_ | refine blk_alloc ?_ _)); exact BK192.out) hb); have n2_ := Aside0.mk (below_step (by repeat (first | (with_reducible first | exact HB.out | apply below_alloc | apply pw_below_drewN | apply below_drew1 | refine below_set ?_ GE192.out) | exact HB.out)) hb); have n3_ := Aside0.mk (hbox); have n4_ := Aside0.mk ((by rw [hg]; exact (below_size (by repeat (first | (with_reducible first | exact HB.out | apply below_alloc | apply pw_below_drewN | apply below_drew1 | refine below_set ?_ GE192.out) | exact HB.out))) : w.heap.size ≤ gb197)); have n5_ := Aside0.mk ((by rw [hg]; exact (below_size (by repeat (first | (with_reducible first | exact HB.out | apply below_alloc | apply pw_below_drewN | apply below_drew1 | refine below_set ?_ GE192.out) | exact HB.out))) : w.heap.size ≤ gb197)); have n6_ := Aside0.mk ((by rw [hg]; exact Nat.ne_of_lt (blk_lt (g := gb192) (o := .cells #[.int .i64 0, .slice none 0 0] 26 (0, 0)) (by (with_reducible repeat (first | refine blk_drewN ?_ _ | refine blk_drew ?_ | refine blk_alloc ?_ _)); exact BK192.out)) : gb192 ≠ gb197)); have n7_ := Aside0.mk ((by rw [hg]; exact Nat.ne_of_gt (blk_lt (g := gb192) (o := .cells #[.int .i64 0, .slice none 0 0] 26 (0, 0)) (by (with_reducible repeat (first | refine blk_drewN ?_ _ | refine blk_drew ?_ | refine blk_alloc ?_ _)); exact BK192.out)) : gb197 ≠ gb192)); clear HO196; clear BK192; clear HB; have HO196 := n0_; have BK192 := n1_; have HB := n2_; have BK197 := n3_; have GW197 := n4_; have GE197 := n5_; have NB192_197 := n6_; have NB197_192 := n7_; clear n0_ n1_ n2_ n3_ n4_ n5_ n6_ n7_; clear hb hbox hg; have hnb6 := NB197_192.out; have hnc6 := NB192_197.out; have hcz7_0 : w5.cell? ⟨gb197, 0, none⟩ = some (.int .i64 0) := (blk_cell BK197.out 0).trans rfl; have hcz7_1 : w5.cell? ⟨gb197, 1, none⟩ = some (.slice none 0 0) := (blk_cell BK197.out 1).trans rfl; have hfz7_0 := blk_frozen BK197.out 0; have hfz7_1 := blk_frozen BK197.out 1; obtain ⟨Ao8, co8, eo8⟩ := Kd.R_slice HO196.out; subst eo8))
  go_loopg [9] k (fun kq v9 w' => ∃ (x9_1 : Int) (x198001_1 : List Int) (u198001 : Value), v9 = .int .i64 x9_1 ∧ Aside0 (bits_All.l0 kq t193 x9_1 t193 x198001_1 = some (r1, r2)) ∧ Aside0 (kq ≤ k) ∧ Aside0 (Kd.R (Kd.int .u64) 45 w' w.heap.size (fun _ => True) u198001 x198001_1) ∧ Aside0 (w'.heap[gb192]? = some (.cells #[.int .i64 0, (.slice none 0 0)] 26 (0, 0))) ∧ Aside0 (w'.heap[gb197]? = some (.cells #[.int .i64 t193, u198001] 26 (0, 0))) ∧ Aside0 (Below w.heap.size w w'))
  case atStart => exact ⟨(0), (t194), (.slice Ao8 t194.length co8), (by first | rfl | (simp; done) | (simp [*]; done)), H', ⟨Nat.le_refl _⟩, ⟨by (with_reducible repeat (first | apply Kd.R_alloc | apply Kd.R_drewN | apply Kd.R_drew)); exact Kd.R_mono (Kd.R_far (p := ⟨gb197, 1, none⟩) (Kd.R_far (p := ⟨gb197, 0, none⟩) (Kd.R_types HO196.out BK197.out (by decide)) (fun _ hk => hk.2) (.int .i64 t193)) (fun _ hk => hk.2) (.slice Ao8 t194.length co8)) (fun _ hk => trivial)⟩, ⟨by (with_reducible repeat (first | refine blk_drewN ?_ _ | refine blk_drew ?_ | refine blk_alloc ?_ _)); refine blk_far ?_ NB192_197.out _; (with_reducible repeat (first | refine blk_drewN ?_ _ | refine blk_drew ?_ | refine blk_alloc ?_ _)); refine blk_far ?_ NB192_197.out _; (with_reducible repeat (first | refine blk_drewN ?_ _ | refine blk_drew ?_ | refine blk_alloc ?_ _)); exact BK192.out⟩, ⟨by (with_reducible repeat (first | refine blk_drewN ?_ _ | refine blk_drew ?_ | refine blk_alloc ?_ _)); refine blk_put (cs := #[.int .i64 t193, .slice none 0 0]) ?_ 1 _ rfl; (with_reducible repeat (first | refine blk_drewN ?_ _ | refine blk_drew ?_ | refine blk_alloc ?_ _)); refine blk_put (cs := #[.int .i64 0, .slice none 0 0]) ?_ 0 _ rfl; (with_reducible repeat (first | refine blk_drewN ?_ _ | refine blk_drew ?_ | refine blk_alloc ?_ _)); exact BK197.out⟩, ⟨by repeat (first | (with_reducible first | exact HB.out | apply below_alloc | apply pw_below_drewN | apply below_drew1 | refine below_set ?_ GE192.out | refine below_set ?_ GE197.out) | exact HB.out)⟩⟩
  case round =>
    clear H'
    try clear c1
    try clear c2
    try clear p2
    try clear c6
    try clear hcz7_0
    try clear hcz7_1
    try clear hfz7_0
    try clear hfz7_1
    obtain ⟨x9_1, x198001_1, u198001, rfl, HA, HK1, HO_198001, BK192, BK197, HB⟩ := hrel
    cases gk with
    | zero => exact absurd HA.out (by simp [bits_All.l0])
    | succ k1 =>
      have H := HA.out
      clear HA
      simp only [bits_All.l0] at H
      by_cases c9 : x9_1 < t193
      · rw [if_pos c9] at H
        have c9b0 : decide (x9_1 < t193) = true := decide_eq_true c9
        clear c9
        obtain ⟨ji10, hji10⟩ : ∃ j_ : Int, (wrap64 (Int.tdiv x9_1 64)) = j_ := ⟨_, rfl⟩
        replace H : (if 0 ≤ (ji10) then (if (ji10) < (x198001_1.length : Int) then (if 0 ≤ (Int.tmod x9_1 64) then (bits_All.l0 k1 t193 (wrap64 (x9_1 + 1)) t193 (x198001_1.set ((ji10) : Int).toNat (Go.bits .or .u64 (rd x198001_1 (ji10)) (shl .u64 1 (Int.tmod x9_1 64))))) else (none)) else (none)) else (none)) = some (r1, r2) := by first | (rw [hji10] at H; exact H) | (simp only [hji10] at H ⊢; exact H)
        have hji10w : (IntKind.i64.wrap (Int.tdiv x9_1 64)) = ji10 := (i64_w _).trans hji10
        by_cases c11 : 0 ≤ (ji10)
        · rw [if_pos c11] at H
          have c11b0 : decide (0 ≤ (ji10)) = true := decide_eq_true c11
          clear c11
          by_cases c12 : (ji10) < (x198001_1.length : Int)
          · rw [if_pos c12] at H
            have c12b0 : decide ((ji10) < (x198001_1.length : Int)) = true := decide_eq_true c12
            clear c12
            obtain ⟨ji13, hji13⟩ : ∃ j_ : Int, (Int.tmod x9_1 64) = j_ := ⟨_, rfl⟩
            replace H : (if 0 ≤ (ji13) then (bits_All.l0 k1 t193 (wrap64 (x9_1 + 1)) t193 (x198001_1.set ((ji10) : Int).toNat (Go.bits .or .u64 (rd x198001_1 (ji10)) (shl .u64 1 (ji13))))) else (none)) = some (r1, r2) := by first | (rw [hji13] at H; exact H) | (simp only [hji13] at H ⊢; exact H)
            by_cases c14 : 0 ≤ (ji13)
            · rw [if_pos c14] at H
              have c14b0 := eq_true c14
              have c14b1 : decide (0 ≤ (ji13)) = true := decide_eq_true c14
              clear c14
              obtain ⟨ji15, hji15⟩ : ∃ j_ : Int, (shl .u64 1 (ji13)) = j_ := ⟨_, rfl⟩
              replace H : (bits_All.l0 k1 t193 (wrap64 (x9_1 + 1)) t193 (x198001_1.set ((ji10) : Int).toNat (Go.bits .or .u64 (rd x198001_1 (ji10)) (ji15)))) = some (r1, r2) := by first | (rw [hji15] at H; exact H) | (simp only [hji15] at H ⊢; exact H)
              have hji15_ : (IntKind.u64.wrap (1 * 2 ^ min (ji13).toNat 64)) = ji15 := hji15
              have hji15z : (ji13) ≤ 64 → (IntKind.u64.wrap (1 * 2 ^ (ji13).toNat)) = ji15 := shl_small hji15
              have hji15u : (IntKind.u64.wrap (2 ^ min (ji13).toNat 64)) = ji15 := by have h_ := hji15_; rw [Int.one_mul] at h_; exact h_
              have hji15v : (ji13) ≤ 64 → (IntKind.u64.wrap (2 ^ (ji13).toNat)) = ji15 := fun hle_ => by have h_ := hji15z hle_; rw [Int.one_mul] at h_; exact h_
              obtain ⟨y199, hy199⟩ : ∃ y_ : List Int, y_ = (x198001_1.set ((ji10) : Int).toNat (Go.bits .or .u64 (rd x198001_1 (ji10)) (ji15))) := ⟨_, rfl⟩
              replace H : (bits_All.l0 k1 t193 (wrap64 (x9_1 + 1)) t193 y199) = some (r1, r2) := by first | (rw [hy199]; with_reducible exact H) | (have H2_ := (Option.bind_some _ _).symm.trans H; rw [hy199]; with_reducible exact H2_) | (have H2_ := (Option.bind_some _ _).symm.trans H; with_reducible exact H2_) | with_reducible exact H | (rw [hy199]; exact H) | exact H
              have Ny199 := Aside0.mk hy199
              clear hy199
              have H' := Aside0.mk H
              clear H
              try go_wp2
              have n0_ := Aside0.mk (Kd.R_drew HO_198001.out)
              have n1_ := Aside0.mk (blk_drew BK192.out)
              have n2_ := Aside0.mk (blk_drew BK197.out)
              have n3_ := Aside0.mk (below_drew1 HB.out)
              clear HO_198001
              clear BK192
              clear BK197
              clear HB
              have HO_198001 := n0_
              have BK192 := n1_
              have BK197 := n2_
              have HB := n3_
              clear n0_ n1_ n2_ n3_
              obtain ⟨Ao18, co18, eo18⟩ := Kd.R_slice HO_198001.out
              (first | subst eo18 | (injection eo18 with f1_ f2_ f3_; have f4_ := f1_.symm; have f5_ := f3_.symm; clear f1_ f2_ f3_; subst f4_; subst f5_))
              have p198 : 0 ≤ ((ji10) : Int) := of_decide_eq_true (by first | (with_reducible assumption) | assumption)
              have q198 : (ji10) < (x198001_1.length : Int) := of_decide_eq_true (by first | (with_reducible assumption) | assumption)
              obtain ⟨ad198, e198, hx198_0⟩ := Kd.at_int (Kd.R_reads' HO_198001.out).2.2 (ji10) p198 q198
              cases e198
              replace p198 := eq_true p198
              replace q198 := eq_true q198
              have p16 : 0 ≤ ((ji10) : Int) := of_decide_eq_true (by first | (with_reducible assumption) | assumption)
              have q16 : ((ji10) : Int) < ((x198001_1.length : Int) : Int) := of_decide_eq_true (by first | (with_reducible assumption) | assumption)
              obtain ⟨go16, co16, eo16, gb16, gl16, cl16, HG16⟩ := Kd.R_form HO_198001.out (by omega)
              (first | cases eo16 | (injection eo16 with ea_ en_ ec_; (first | subst ea_ | (injection ea_ with ea_; subst ea_)); subst ec_; clear en_))
              have GB16 := Aside0.mk gb16
              have GG16 := Aside0.mk HG16
              clear gb16 gl16 HG16
              (first | simp only [add_plain] at hx198_0 | skip)
              obtain ⟨hx16_0, hf16_0⟩ := Kd.R_celln 0 HO_198001.out ((ji10) : Int) p16 q16
              replace p16 := eq_true p16
              replace q16 := eq_true q16
              have HP19 := Kd.R_putn HO_198001.out ((ji10) : Int) (Go.bits .or .u64 (rd x198001_1 (ji10)) (ji15))
              rw [← Ny199.out] at HP19
              have HQ19 := Aside0.mk HP19
              clear HP19
              refine start_ (n := 12) (S := fun w' => w'.cell? ⟨gb197, 0, none⟩ = some (.int .i64 t193) ∧ w'.cell? ⟨gb197, 1, none⟩ = some (.slice (some ⟨go16, 0, none⟩) x198001_1.length co18) ∧ w'.cell? ⟨go16, ((ji10)).toNat, none⟩ = some (.int .u64 (rd x198001_1 (ji10)))) (ds := [11]) #[false, false, false, false, false, false, false, false, false, false, false, false] (by kernel_rfl) rfl rfl ⟨(blk_cell BK197.out 0).trans rfl, (blk_cell BK197.out 1).trans rfl, hx198_0⟩ (fun hHeld => ?_); refine with_tabW bits_All.tab5 bits_All.bits5 (fun HT_ HW_ => ?_)
              generalize wr.drew = w17 at HO_198001 BK192 BK197 HB GG16 HQ19 hf16_0 hx16_0 hx198_0 hHeld ⊢
              refine pure_ (i := 0) (N := some 12) (v := ?_) (a' := ?_) #[true, false, false, false, false, false, false, false, false, false, false, false] rfl rfl (any_of HT_.out (by kernel_rfl)) (fun _ _ _ h => h) (Or.inl ⟨by rfl, ?_⟩) ?_ ?_
              rotate_left
              · intro w'
                go_simp
                with_reducible rfl
              rotate_left
              · simp only [Act.put, List.setIfInBounds_toArray, List.set_cons_zero, List.set_cons_succ, i64_w, i32_w]
                rfl
              refine pure_ (i := 2) (N := some 14) (v := ?_) (a' := ?_) #[true, false, true, false, false, false, false, false, false, false, false, false] rfl rfl (any_of HT_.out (by kernel_rfl)) (fun _ _ _ h => h) (Or.inl ⟨by rfl, ?_⟩) ?_ ?_
              rotate_left
              · intro w'
                go_simp
                with_reducible rfl
              rotate_left
              · simp only [Act.put, List.setIfInBounds_toArray, List.set_cons_zero, List.set_cons_succ, i64_w, i32_w]
                rfl
              refine pure_ (i := 3) (N := some 15) (v := ?_) (a' := ?_) #[true, false, true, true, false, false, false, false, false, false, false, false] rfl rfl (any_of HT_.out (by kernel_rfl)) (fun _ _ _ h => h) (Or.inl ⟨by rfl, ?_⟩) ?_ ?_
              rotate_left
              · intro w'
                go_simp
                with_reducible rfl
              rotate_left
              · simp only [Act.put, List.setIfInBounds_toArray, List.set_cons_zero, List.set_cons_succ, i64_w, i32_w]
                rfl
              refine pure_ (i := 6) (N := some 18) (v := ?_) (a' := ?_) #[true, false, true, true, false, false, true, false, false, false, false, false] rfl rfl (any_of HT_.out (by kernel_rfl)) (fun _ _ _ h => h) (Or.inl ⟨by rfl, ?_⟩) ?_ ?_
              rotate_left
              · intro w'
                go_simp
                with_reducible rfl
              rotate_left
              · simp only [Act.put, List.setIfInBounds_toArray, List.set_cons_zero, List.set_cons_succ, i64_w, i32_w]
                rfl
              refine pure_ (i := 7) (N := some 19) (v := ?_) (a' := ?_) #[true, false, true, true, false, false, true, true, false, false, false, false] rfl rfl (any_of HT_.out (by kernel_rfl)) (fun _ _ _ h => h) (Or.inl ⟨by rfl, ?_⟩) ?_ ?_
              rotate_left
              · intro w'
                go_simp
                with_reducible rfl
              rotate_left
              · simp only [Act.put, List.setIfInBounds_toArray, List.set_cons_zero, List.set_cons_succ, i64_w, i32_w]
                rfl
              refine pure_ (i := 8) (N := some 20) (v := ?_) (a' := ?_) #[true, false, true, true, false, false, true, true, true, false, false, false] rfl rfl (any_of HT_.out (by kernel_rfl)) (fun _ _ _ h => h) (Or.inl ⟨by rfl, ?_⟩) ?_ ?_
              rotate_left
              · intro w'
                go_simp
                with_reducible rfl
              rotate_left
              · simp only [Act.put, List.setIfInBounds_toArray, List.set_cons_zero, List.set_cons_succ, i64_w, i32_w]
                rfl
              refine take_ (i := 1) (N := some 13) (v := ?_) (a' := ?_) #[true, true, true, true, false, false, true, true, true, false, false, false] rfl rfl (take_ofW HT_.out HW_.out (by kernel_rfl)) (fun _ _ _ h => h) (Or.inl ⟨by rfl, ?_⟩) hHeld ?_ ?_
              rotate_left
              · rintro w' ⟨s0, s1, s2⟩
                go_simp
                with_reducible rfl
              rotate_left
              · simp only [Act.put, List.setIfInBounds_toArray, List.set_cons_zero, List.set_cons_succ, i64_w, i32_w]
                rfl
              refine pure_ (i := 4) (N := some 16) (v := ?_) (a' := ?_) #[true, true, true, true, true, false, true, true, true, false, false, false] rfl rfl (any_of HT_.out (by kernel_rfl)) (fun _ _ _ h => h) (Or.inl ⟨by rfl, ?_⟩) ?_ ?_
              rotate_left
              · intro w'
                go_simp
                with_reducible rfl
              rotate_left
              · simp only [Act.put, List.setIfInBounds_toArray, List.set_cons_zero, List.set_cons_succ, i64_w, i32_w]
                rfl
              refine take_ (i := 5) (N := some 17) (v := ?_) (a' := ?_) #[true, true, true, true, true, true, true, true, true, false, false, false] rfl rfl (take_ofW HT_.out HW_.out (by kernel_rfl)) (fun _ _ _ h => h) (Or.inl ⟨by rfl, ?_⟩) hHeld ?_ ?_
              rotate_left
              · rintro w' ⟨s0, s1, s2⟩
                go_simp
                with_reducible rfl
              rotate_left
              · simp only [Act.put, List.setIfInBounds_toArray, List.set_cons_zero, List.set_cons_succ, i64_w, i32_w]
                rfl
              refine pure_ (i := 9) (N := some 21) (v := ?_) (a' := ?_) #[true, true, true, true, true, true, true, true, true, true, false, false] rfl rfl (any_of HT_.out (by kernel_rfl)) (fun _ _ _ h => h) (Or.inl ⟨by rfl, ?_⟩) ?_ ?_
              rotate_left
              · intro w'
                go_simp
                with_reducible rfl
              rotate_left
              · simp only [Act.put, List.setIfInBounds_toArray, List.set_cons_zero, List.set_cons_succ, i64_w, i32_w]
                rfl
              refine pure_ (i := 10) (N := some 22) (v := ?_) (a' := ?_) #[true, true, true, true, true, true, true, true, true, true, true, false] rfl rfl (any_of HT_.out (by kernel_rfl)) (fun _ _ _ h => h) (Or.inl ⟨by rfl, ?_⟩) ?_ ?_
              rotate_left
              · intro w'
                go_simp
                with_reducible rfl
              rotate_left
              · simp only [Act.put, List.setIfInBounds_toArray, List.set_cons_zero, List.set_cons_succ, i64_w, i32_w]
                rfl
              refine last_ (i := 11) (N := none) #[true, true, true, true, true, true, true, true, true, true, true, true] rfl rfl (one_of HT_.out (by kernel_rfl)) (by decide) (fun K hK => ?_)
              refine skip_ (w1 := ?_) (by rfl) rfl ?_ ?_
              rotate_left
              · go_simp
                rfl
              refine hK.out _ _ ?_
              clear hK K
              refine done_ (done_of HT_.out (by kernel_rfl)) ?_
              try go_wp2
              go_roundg k1
              case measure => have := HK1.out; omega
              case rel => exact ⟨(wrap64 (x9_1 + 1)), (y199), (.slice (some ⟨go16, 0, none⟩) x198001_1.length co18), (by first | rfl | (simp; done) | (simp [*]; done)), H', ⟨by have := HK1.out; omega⟩, ⟨by (with_reducible repeat (first | apply Kd.R_alloc | apply Kd.R_drewN | apply Kd.R_drew)); exact HQ19.out⟩, ⟨by (with_reducible repeat (first | refine blk_drewN ?_ _ | refine blk_drew ?_ | refine blk_alloc ?_ _)); refine blk_far ?_ (by have h_ := Kd.R_ne HO_198001.out BK192.out (by decide); intro e_; exact h_ (by rw [e_]; rfl)) _; (with_reducible repeat (first | refine blk_drewN ?_ _ | refine blk_drew ?_ | refine blk_alloc ?_ _)); exact BK192.out⟩, ⟨by (with_reducible repeat (first | refine blk_drewN ?_ _ | refine blk_drew ?_ | refine blk_alloc ?_ _)); refine blk_far ?_ (by have h_ := Kd.R_ne HO_198001.out BK197.out (by decide); intro e_; exact h_ (by rw [e_]; rfl)) _; (with_reducible repeat (first | refine blk_drewN ?_ _ | refine blk_drew ?_ | refine blk_alloc ?_ _)); exact BK197.out⟩, ⟨by repeat (first | (with_reducible first | exact HB.out | apply below_alloc | apply pw_below_drewN | apply below_drew1 | refine below_set ?_ GB16.out | refine below_set ?_ GE192.out | refine below_set ?_ GE197.out) | exact HB.out)⟩⟩
            · rw [if_neg c14] at H
              exact absurd H (by simp)
          · rw [if_neg c12] at H
            exact absurd H (by simp)
        · rw [if_neg c11] at H
          exact absurd H (by simp)
      · rw [if_neg c9] at H
        have c9b0 : decide (x9_1 < t193) = false := decide_eq_false c9
        clear c9
        simp only [Option.some.injEq, Prod.mk.injEq] at H
        obtain ⟨rfl, rfl⟩ := H
        have hnb20 := NB197_192.out
        have hnc20 := NB192_197.out
        have hcz21_0 : wr.cell? ⟨gb197, 0, none⟩ = some (.int .i64 t193) := (blk_cell BK197.out 0).trans rfl
        have hcz21_1 : wr.cell? ⟨gb197, 1, none⟩ = some (u198001) := (blk_cell BK197.out 1).trans rfl
        have hfz21_0 := blk_frozen BK197.out 0
        have hfz21_1 := blk_frozen BK197.out 1
        have hcz22_0 : wr.cell? ⟨gb192, 0, none⟩ = some (.int .i64 0) := (blk_cell BK192.out 0).trans rfl
        have hcz22_1 : wr.cell? ⟨gb192, 1, none⟩ = some (.slice none 0 0) := (blk_cell BK192.out 1).trans rfl
        have hfz22_0 := blk_frozen BK192.out 0
        have hfz22_1 := blk_frozen BK192.out 1
        obtain ⟨Ao23, co23, eo23⟩ := Kd.R_slice HO_198001.out
        subst eo23
        go_wp2
        refine bodyPost_ret (results_cell_row rfl _ _ gb192 26 #[.int .i64 t193, .slice Ao23 x198001_1.length co23] (0, 0) _ rfl (by (with_reducible repeat (first | refine blk_drewN ?_ _ | refine blk_drew ?_ | refine blk_alloc ?_ _)); refine blk_put (cs := #[.int .i64 t193, .slice none 0 0]) ?_ 1 _ rfl; (with_reducible repeat (first | refine blk_drewN ?_ _ | refine blk_drew ?_ | refine blk_alloc ?_ _)); refine blk_put (cs := #[.int .i64 0, .slice none 0 0]) ?_ 0 _ rfl; (with_reducible repeat (first | refine blk_drewN ?_ _ | refine blk_drew ?_ | refine blk_alloc ?_ _)); exact BK192.out) Tryd.underlying26 rfl (by kernel_rfl)) rfl ?_
        exact ⟨_, by first | rfl | (simp [errW_none, errW_some] <;> rfl) | (simp [*, errW_none, errW_some] <;> rfl), by (with_reducible repeat (first | apply Kd.R_alloc | apply Kd.R_drewN | apply Kd.R_drew)); exact Kd.R_mono (Kd.R_far (p := ⟨gb192, 1, none⟩) (Kd.R_far (p := ⟨gb192, 0, none⟩) (Kd.R_types HO_198001.out BK192.out (by decide)) (fun _ hk => hk.2) (.int .i64 t193)) (fun _ hk => hk.2) (.slice Ao23 x198001_1.length co23)) (fun _ hk => trivial), by repeat (first | (with_reducible first | exact HB.out | apply below_alloc | apply pw_below_drewN | apply below_drew1 | refine below_set ?_ GE192.out | refine below_set ?_ GE197.out) | exact HB.out)⟩

/-! ### bits_Set_And: function 14 -/
def bits_Set_And.l0 : Nat → Int → Int → Int → List Int → Int → List Int → Int → List Int → Option (Int × List Int)
  | 0, _, _, _, _, _, _, _, _ => none
  | k + 1, x15, x16, x201000, x201001, x202000, x202001, x208000, x208001 => if x16 < x15 then (if 0 ≤ x16 then (if x16 < (x201001.length : Int) then (if x16 < (x202001.length : Int) then (if x16 < (x208001.length : Int) then (bits_Set_And.l0 k x15 (wrap64 (x16 + 1)) x201000 x201001 x202000 x202001 x208000 (x208001.set (x16 : Int).toNat (Go.bits .and .u64 (rd x201001 x16) (rd x202001 x16)))) else (none)) else (none)) else (none)) else (none)) else (some (x208000, x208001))
def bits_Set_And.f (k : Nat) (a0_0 : Int) (l0_1 : List Int) (a1_0 : Int) (l1_1 : List Int) : Option (Int × List Int) := (bits_New.f (mn a0_0 a1_0)).bind fun bt203 => (bits_Set_And.l0 k (bt203.2.length : Int) 0 a0_0 l0_1 a1_0 l1_1 bt203.1 bt203.2)
def bits_Set_And.T5 : Bool × List (List Nat × List Nat) := (true, [([], []), ([0], [0]), ([], []), ([], []), ([3], [3]), ([], []), ([4, 5], [4, 5]), ([6], [6]), ([], []), ([8], [8]), ([], []), ([9, 10], [9, 10]), ([11], [11]), ([7, 12], [7, 12]), ([1, 2, 0, 1, 2, 3, 4, 5, 6, 7, 8, 9, 10, 11, 12, 13], [1, 2]), ([14, 13, 0, 1, 2, 3, 4, 5, 6, 7, 8, 9, 10, 11, 12, 13], [13, 14])])
def bits_Set_And.B5 : List Nat := [0, 1, 0, 0, 8, 0, 56, 120, 0, 256, 0, 1792, 3840, 8184, 16383, 32767]
end Go.Proofs.YtkkikddocgckbaaDoor.PBit
end

section
/- Printed by a program of this session (wip/pg.py, over the print of the kit): functions, their Lean twins, and the proofs that the calls come to them; each under the conditions that it names. -/
namespace Go.Proofs.YtkkikddocgckbaaDoor.PBit
open Go.Proofs.YtkkikddocgckbaaDoor.Given
open Go.RowKit Go.Proofs.YtkkikddocgckbaaDoorW.PrintWords Go.Proofs.YtkkikddocgckbaaDoorW.PrintLast Go.Proofs.YtkkikddocgckbaaDoorW.PrintMore
attribute [local go_sem] max2_int min2_int max_two min_two max_three min_three max_four min_four   -- for this text's walks alone
set_option linter.unusedVariables false
set_option linter.unusedSimpArgs false

/-! ### bits_Set_Or: function 15 -/
def bits_Set_Or.l0 : Nat → List Int → Int → Int → Int → List Int → Option (Int × List Int)
  | 0, _, _, _, _, _ => none
  | k + 1, x16, x17, x18, x219000, x219001 => if x18 < x17 then (if 0 ≤ x18 then (if x18 < (x16.length : Int) then (if x18 < (x219001.length : Int) then (bits_Set_Or.l0 k x16 x17 (wrap64 (x18 + 1)) x219000 (x219001.set (x18 : Int).toNat (Go.bits .or .u64 (rd x219001 x18) (rd x16 x18)))) else (none)) else (none)) else (none)) else (some (x219000, x219001))
def bits_Set_Or.f (k : Nat) (a0_0 : Int) (l0_1 : List Int) (a1_0 : Int) (l1_1 : List Int) : Option (Int × List Int) := (bits_Set_copied.f a0_0 l0_1 (mx a0_0 a1_0)).bind fun bt214 => (bits_Set_Or.l0 k l1_1 (l1_1.length : Int) 0 bt214.1 bt214.2)
/-! ### bits_Set_Same: function 18 -/
def bits_Set_Same.l0 : Nat → List Int → Int → Int → Int → List Int → Option (Bool)
  | 0, _, _, _, _, _ => none
  | k + 1, x13, x14, x15, x224000, x224001 => if x15 < x14 then (if 0 ≤ x15 then (if x15 < (x13.length : Int) then (if x15 < (x224001.length : Int) then (if (rd x13 x15) = (rd x224001 x15) then (bits_Set_Same.l0 k x13 x14 (wrap64 (x15 + 1)) x224000 x224001) else (some false)) else (none)) else (none)) else (none)) else (some true)
def bits_Set_Same.f (k : Nat) (a0_0 : Int) (l0_1 : List Int) (a1_0 : Int) (l1_1 : List Int) : Option (Bool) := if a0_0 = a1_0 then (bits_Set_Same.l0 k l0_1 (l0_1.length : Int) 0 a1_0 l1_1) else (some false)
/-! ### ladderbackref06_And: function 16 -/
def ladderbackref06_And.l0 : Nat → List Bool → List Bool → List Bool → Int → Option (List Bool)
  | 0, _, _, _, _ => none
  | k + 1, x0, x1, x5, x6 => if x6 < (x0.length : Int) then (if x6 < (x1.length : Int) then (if 0 ≤ x6 then (if rdOf false x0 x6 = true then (if x5.length < 140737488355328 then (ladderbackref06_And.l0 k x0 x1 (x5 ++ [rdOf false x1 x6]) (wrap64 (x6 + 1))) else (none)) else (if x5.length < 140737488355328 then (ladderbackref06_And.l0 k x0 x1 (x5 ++ [false]) (wrap64 (x6 + 1))) else (none))) else (none)) else (some x5)) else (some x5)
def ladderbackref06_And.f (k : Nat) (l0 : List Bool) (l1 : List Bool) : Option (List Bool) := ladderbackref06_And.l0 k l0 l1 ([] : List Bool) 0
/-! ### ladderbackref06_Or: function 17 -/
mutual
def ladderbackref06_Or.l0 : Nat → List Bool → List Bool → List Bool → Int → Option (List Bool)
  | 0, _, _, _, _ => none
  | k + 1, x0, x1, x5, x6 => if x6 < (x0.length : Int) then (ladderbackref06_Or.j1 k x0 x1 x5 x6 true) else (ladderbackref06_Or.j1 k x0 x1 x5 x6 (decide (x6 < (x1.length : Int))))
def ladderbackref06_Or.j1 : Nat → List Bool → List Bool → List Bool → Int → Bool → Option (List Bool)
  | 0, _, _, _, _, _ => none
  | k + 1, x0, x1, x5, x6, x16 => if x16 = true then ((ladderbackref06_Has.f x0 x6).bind fun t234 => (if t234 = true then (if x5.length < 140737488355328 then (ladderbackref06_Or.l0 k x0 x1 (x5 ++ [true]) (wrap64 (x6 + 1))) else (none)) else ((ladderbackref06_Has.f x1 x6).bind fun t238 => (if x5.length < 140737488355328 then (ladderbackref06_Or.l0 k x0 x1 (x5 ++ [t238]) (wrap64 (x6 + 1))) else (none))))) else (some x5)
end
def ladderbackref06_Or.f (k : Nat) (l0 : List Bool) (l1 : List Bool) : Option (List Bool) := ladderbackref06_Or.l0 k l0 l1 ([] : List Bool) 0
/-! ### ladderbackref06_Same: function 19 -/
def ladderbackref06_Same.l0 : Nat → List Bool → List Bool → Int → Option (Bool)
  | 0, _, _, _ => none
  | k + 1, x0, x1, x5 => if x5 < (x0.length : Int) then (if 0 ≤ x5 then (if x5 < (x1.length : Int) then (if ((rdOf false x0 x5) != (rdOf false x1 x5)) = true then (some false) else (ladderbackref06_Same.l0 k x0 x1 (wrap64 (x5 + 1)))) else (none)) else (none)) else (some true)
def ladderbackref06_Same.f (k : Nat) (l0 : List Bool) (l1 : List Bool) : Option (Bool) := if (l0.length : Int) = (l1.length : Int) then (ladderbackref06_Same.l0 k l0 l1 0) else (some false)
end Go.Proofs.YtkkikddocgckbaaDoor.PBit
end

section
/- Printed by a program of this session (wip/pg.py, over the print of the kit): functions, their Lean twins, and the proofs that the calls come to them; each under the conditions that it names. -/
namespace Go.Proofs.YtkkikddocgckbaaDoor.PBit
open Go.Proofs.YtkkikddocgckbaaDoor.Given
open Go.RowKit Go.Proofs.YtkkikddocgckbaaDoorW.PrintWords Go.Proofs.YtkkikddocgckbaaDoorW.PrintLast Go.Proofs.YtkkikddocgckbaaDoorW.PrintMore
attribute [local go_sem] max2_int min2_int max_two min_two max_three min_three max_four min_four   -- for this text's walks alone
set_option linter.unusedVariables false
set_option linter.unusedSimpArgs false

end Go.Proofs.YtkkikddocgckbaaDoor.PBit
end

section
/- The bits of a word, plainly: their number as math/bits.OnesCount64 counts them, and their places as the lowest is taken off again and again. -/
namespace Go.Proofs.YtkkikddocgckbaaDoor.BitsMath
set_option linter.unusedVariables false
set_option linter.unusedSimpArgs false
/-- The places of a word's set bits, from o on. -/
def places : Nat → Nat → Nat → List Nat
  | 0, _, _ => []
  | f + 1, o, x => if x % 2 = 1 then o :: places f (o + 1) (x / 2) else places f (o + 1) (x / 2)
theorem places_zero : ∀ f o, places f o 0 = []
  | 0, _ => rfl
  | f + 1, o => by unfold places; simpa using places_zero f (o + 1)
theorem and_half (a b : Nat) : a &&& b = 2 * (a / 2 &&& b / 2) + (if a % 2 = 1 ∧ b % 2 = 1 then 1 else 0) := by
  have h1 : (a &&& b) / 2 = a / 2 &&& b / 2 := Nat.and_div_two
  have h2 : (a &&& b) % 2 = 1 ↔ a % 2 = 1 ∧ b % 2 = 1 := Nat.and_mod_two_eq_one
  split
  · rename_i h; have := h2.2 h; omega
  · rename_i h
    have : ¬ (a &&& b) % 2 = 1 := fun h' => h (h2.1 h')
    omega
theorem places_step : ∀ f o x, x ≠ 0 → x < 2 ^ f → places f o x = (o + Lib.ctzFrom f x) :: places f o (x &&& (x - 1))
  | 0, _, x, h0, h => absurd h (by simp; omega)
  | f + 1, o, x, h0, h => by
    by_cases h1 : x % 2 = 1
    · have e : x &&& (x - 1) = 2 * (x / 2) := by
        rw [and_half, show (x - 1) / 2 = x / 2 by omega, Nat.and_self, if_neg (by omega)]; omega
      rw [e]
      simp only [places, Lib.ctzFrom, if_pos h1, show ¬ (2 * (x / 2)) % 2 = 1 by omega, if_false, show 2 * (x / 2) / 2 = x / 2 by omega, Nat.add_zero]
    · have e : x &&& (x - 1) = 2 * (x / 2 &&& (x / 2 - 1)) := by
        rw [and_half, show (x - 1) / 2 = x / 2 - 1 by omega, if_neg (by omega)]; omega
      rw [e]
      have ih := places_step f (o + 1) (x / 2) (by omega) (by rw [Nat.pow_succ] at h; omega)
      simp only [places, Lib.ctzFrom, if_neg h1, show ¬ (2 * (x / 2 &&& (x / 2 - 1))) % 2 = 1 by omega, if_false, show 2 * (x / 2 &&& (x / 2 - 1)) / 2 = x / 2 &&& (x / 2 - 1) by omega]
      rw [ih, show o + 1 + Lib.ctzFrom f (x / 2) = o + (1 + Lib.ctzFrom f (x / 2)) by omega]
/-- The same digit again and again. -/
def rep (c : Nat) : Nat → Nat
  | 0 => 0
  | d + 1 => 256 * rep c d + c
theorem and_byte (a b q r : Nat) (hr : r < 256) : a &&& (256 * q + r) = 256 * (a / 256 &&& q) + (a % 256 &&& r) := by
  have h1 : (a &&& (256 * q + r)) / 2 ^ 8 = a / 2 ^ 8 &&& (256 * q + r) / 2 ^ 8 := Nat.and_div_two_pow
  have h2 : (a &&& (256 * q + r)) % 2 ^ 8 = a % 2 ^ 8 &&& (256 * q + r) % 2 ^ 8 := Nat.and_mod_two_pow
  have e1 : (256 * q + r) / 2 ^ 8 = q := by omega
  have e2 : (256 * q + r) % 2 ^ 8 = r := by omega
  rw [e1] at h1
  rw [e2] at h2
  have e3 : (2 : Nat) ^ 8 = 256 := rfl
  rw [e3] at h1 h2
  omega
def F1 (d x : Nat) : Nat := (x / 2 &&& rep 85 d) + (x &&& rep 85 d)
def F2 (d x : Nat) : Nat := (x / 4 &&& rep 51 d) + (x &&& rep 51 d)
def F3 (d x : Nat) : Nat := (x / 16 + x) &&& rep 15 d
theorem m55 : ∀ n : Fin 256, ∀ c : Fin 2, (128 * c.val + n.val / 2) &&& 85 = n.val / 2 &&& 85 := by decide +kernel
theorem m33 : ∀ n : Fin 256, ∀ c : Fin 4, (64 * c.val + n.val / 4) &&& 51 = n.val / 4 &&& 51 := by decide +kernel
def b1 (n : Nat) : Nat := (n / 2 &&& 85) + (n &&& 85)
def b2 (n : Nat) : Nat := (n / 4 &&& 51) + (n &&& 51)
def b3 (n : Nat) : Nat := (n / 16 + n) &&& 15
theorem F1_step (d x : Nat) : F1 (d + 1) x = 256 * F1 d (x / 256) + b1 (x % 256) := by
  unfold F1 b1
  rw [rep, and_byte (x / 2) 0 _ _ (by omega), and_byte x 0 _ _ (by omega)]
  have e1 : x / 2 / 256 = x / 256 / 2 := by omega
  have e2 : x / 2 % 256 = 128 * (x / 256 % 2) + x % 256 / 2 := by omega
  have := m55 ⟨x % 256, by omega⟩ ⟨x / 256 % 2, by omega⟩
  simp only at this
  rw [e1, e2, this]
  omega
theorem F2_step (d x : Nat) : F2 (d + 1) x = 256 * F2 d (x / 256) + b2 (x % 256) := by
  unfold F2 b2
  rw [rep, and_byte (x / 4) 0 _ _ (by omega), and_byte x 0 _ _ (by omega)]
  have e1 : x / 4 / 256 = x / 256 / 4 := by omega
  have e2 : x / 4 % 256 = 64 * (x / 256 % 4) + x % 256 / 4 := by omega
  have := m33 ⟨x % 256, by omega⟩ ⟨x / 256 % 4, by omega⟩
  simp only at this
  rw [e1, e2, this]
  omega
theorem F3_step (d x : Nat) (h : x % 4096 / 16 + x % 256 < 256) (h2 : x % 256 / 16 + x % 256 < 256) : F3 (d + 1) x = 256 * F3 d (x / 256) + ((x % 4096 / 16 + x % 256) &&& 15) := by
  unfold F3
  rw [rep, and_byte _ 0 _ _ (by omega)]
  have e1 : (x / 16 + x) / 256 = x / 256 / 16 + x / 256 := by omega
  have e2 : (x / 16 + x) % 256 = x % 4096 / 16 + x % 256 := by omega
  rw [e1, e2]
theorem byteFacts : ∀ n : Fin 256, b1 n.val < 256 ∧ b2 (b1 n.val) < 256 ∧ b2 (b1 n.val) % 16 ≤ 4 ∧ b2 (b1 n.val) / 16 ≤ 4 ∧ b2 (b1 n.val) / 16 + b2 (b1 n.val) % 16 = Lib.popAux 8 n.val := by decide +kernel
theorem and15 (n : Nat) : n &&& 15 = n % 16 := Nat.and_two_pow_sub_one_eq_mod n 4
/-- The bytes' counts. -/
def cnts : Nat → Nat → Nat
  | 0, _ => 0
  | d + 1, x => 256 * cnts d (x / 256) + Lib.popAux 8 (x % 256)
theorem F12 (d x : Nat) : F2 (d + 1) (F1 (d + 1) x) = 256 * F2 d (F1 d (x / 256)) + b2 (b1 (x % 256)) := by
  obtain ⟨h1, h2, -⟩ := byteFacts ⟨x % 256, by omega⟩
  simp only at h1 h2
  rw [F2_step, F1_step]
  rw [show (256 * F1 d (x / 256) + b1 (x % 256)) / 256 = F1 d (x / 256) by omega, show (256 * F1 d (x / 256) + b1 (x % 256)) % 256 = b1 (x % 256) by omega]
theorem F12_low (d x : Nat) : F2 d (F1 d x) % 16 ≤ 4 := by
  cases d with
  | zero => simp [F1, F2, rep]
  | succ d =>
    rw [F12]
    obtain ⟨-, -, h3, -⟩ := byteFacts ⟨x % 256, by omega⟩
    simp only at h3
    omega
theorem swar : ∀ d x, F3 d (F2 d (F1 d x)) = cnts d x
  | 0, x => by simp [F3, rep, cnts]
  | d + 1, x => by
    obtain ⟨h1, h2, h3, h4, h5⟩ := byteFacts ⟨x % 256, by omega⟩
    simp only at h1 h2 h3 h4 h5
    have hl := F12_low d (x / 256)
    have ih := swar d (x / 256)
    rw [F12]
    generalize F2 d (F1 d (x / 256)) = y at hl ih ⊢
    generalize b2 (b1 (x % 256)) = c at h2 h3 h4 h5 ⊢
    have e1 : (256 * y + c) % 4096 / 16 = 16 * (y % 16) + c / 16 := by omega
    have e2 : (256 * y + c) % 256 = c := by omega
    have e3 : (256 * y + c) / 256 = y := by omega
    rw [F3_step d _ (by rw [e1, e2]; omega) (by rw [e2]; omega), e1, e2, e3, and15, cnts, ← h5, ih]
    omega
theorem pop_split : ∀ k f x, Lib.popAux (k + f) x = Lib.popAux k (x % 2 ^ k) + Lib.popAux f (x / 2 ^ k)
  | 0, f, x => by simp [Lib.popAux]
  | k + 1, f, x => by
    rw [show k + 1 + f = (k + f) + 1 by omega, Lib.popAux, Lib.popAux, pop_split k f (x / 2)]
    have e1 : x % 2 ^ (k + 1) % 2 = x % 2 := by rw [Nat.mod_mod_of_dvd]; exact Nat.dvd_mul_left 2 (2 ^ k)
    have e2 : x % 2 ^ (k + 1) / 2 = x / 2 % 2 ^ k := by
      rw [Nat.pow_succ, Nat.mul_comm, Nat.mod_mul_right_div_self]
    have e3 : x / 2 / 2 ^ k = x / 2 ^ (k + 1) := by rw [Nat.div_div_eq_div_mul, Nat.pow_succ, Nat.mul_comm]
    rw [e1, e2, e3]
    omega
theorem pop8_le (n : Nat) (h : n < 256) : Lib.popAux 8 n ≤ 8 := by
  have : ∀ n : Fin 256, Lib.popAux 8 n.val ≤ 8 := by decide +kernel
  exact this ⟨n, h⟩
theorem cnts_eight (x : Nat) : ∃ p0 p1 p2 p3 p4 p5 p6 p7, p0 ≤ 8 ∧ p1 ≤ 8 ∧ p2 ≤ 8 ∧ p3 ≤ 8 ∧ p4 ≤ 8 ∧ p5 ≤ 8 ∧ p6 ≤ 8 ∧ p7 ≤ 8 ∧ cnts 8 x = p0 + 256 * (p1 + 256 * (p2 + 256 * (p3 + 256 * (p4 + 256 * (p5 + 256 * (p6 + 256 * p7)))))) ∧ Lib.popAux 64 x = p0 + p1 + p2 + p3 + p4 + p5 + p6 + p7 := by
  refine ⟨_, _, _, _, _, _, _, _, pop8_le (x % 256) (by omega), pop8_le (x / 256 % 256) (by omega), pop8_le (x / 256 / 256 % 256) (by omega), pop8_le (x / 256 / 256 / 256 % 256) (by omega), pop8_le (x / 256 / 256 / 256 / 256 % 256) (by omega), pop8_le (x / 256 / 256 / 256 / 256 / 256 % 256) (by omega), pop8_le (x / 256 / 256 / 256 / 256 / 256 / 256 % 256) (by omega), pop8_le (x / 256 / 256 / 256 / 256 / 256 / 256 / 256 % 256) (by omega), ?_, ?_⟩
  · simp only [cnts]; omega
  · have s : ∀ f x, Lib.popAux (8 + f) x = Lib.popAux 8 (x % 256) + Lib.popAux f (x / 256) := fun f x => pop_split 8 f x
    rw [show (64 : Nat) = 8 + (8 + (8 + (8 + (8 + (8 + (8 + (8 + 0))))))) from rfl]
    simp only [s]
    simp only [Lib.popAux]
    omega
theorem fold1 (p0 p1 p2 p3 p4 p5 p6 p7 y : Nat) (h0 : p0 ≤ 8) (h1 : p1 ≤ 8) (h2 : p2 ≤ 8) (h3 : p3 ≤ 8) (h4 : p4 ≤ 8) (h5 : p5 ≤ 8) (h6 : p6 ≤ 8) (h7 : p7 ≤ 8)
    (hy : y = p0 + 256 * (p1 + 256 * (p2 + 256 * (p3 + 256 * (p4 + 256 * (p5 + 256 * (p6 + 256 * p7))))))) :
    (y + y / 256 + (y + y / 256) / 65536 + (y + y / 256 + (y + y / 256) / 65536) / 4294967296) % 128 = p0 + p1 + p2 + p3 + p4 + p5 + p6 + p7 := by
  have e1 : y / 256 = p1 + 256 * (p2 + 256 * (p3 + 256 * (p4 + 256 * (p5 + 256 * (p6 + 256 * p7))))) := by omega
  have e2 : (y + y / 256) / 65536 = (p2 + p3) + 256 * ((p3 + p4) + 256 * ((p4 + p5) + 256 * ((p5 + p6) + 256 * ((p6 + p7) + 256 * p7)))) := by omega
  generalize (y + y / 256) / 65536 = z at e2 ⊢
  have e3 : (y + y / 256 + z) / 4294967296 = (p4 + p5 + p6 + p7) + 256 * ((p5 + p6 + p7) + 256 * ((p6 + p7) + 256 * p7)) := by omega
  generalize (y + y / 256 + z) / 4294967296 = v at e3 ⊢
  omega
end Go.Proofs.YtkkikddocgckbaaDoor.BitsMath
end

section
/- Words as a row of bits, plainly: the places, the number, one place set. -/
namespace Go.Proofs.YtkkikddocgckbaaDoor.BitsMath
set_option linter.unusedVariables false
set_option linter.unusedSimpArgs false
def bitsN : Nat → Nat → List Bool
  | 0, _ => []
  | f + 1, x => decide (x % 2 = 1) :: bitsN f (x / 2)
theorem bitsN_length : ∀ f x, (bitsN f x).length = f
  | 0, _ => rfl
  | f + 1, x => by simp [bitsN, bitsN_length f]
theorem bitsN_get : ∀ f x j, j < f → (bitsN f x)[j]? = some (x.testBit j)
  | 0, _, _, h => absurd h (Nat.not_lt_zero _)
  | f + 1, x, 0, _ => by simp [bitsN, Nat.testBit_zero]
  | f + 1, x, j + 1, h => by
    simp only [bitsN, List.getElem?_cons_succ]
    rw [bitsN_get f (x / 2) j (by omega), Nat.testBit_succ]
/-- The places of what is set, from o on. -/
def posn : Nat → List Bool → List Nat
  | _, [] => []
  | o, b :: x => if b = true then o :: posn (o + 1) x else posn (o + 1) x
theorem places_posn : ∀ f o x, places f o x = posn o (bitsN f x)
  | 0, _, _ => rfl
  | f + 1, o, x => by
    simp only [places, bitsN, posn, decide_eq_true_eq]
    rw [places_posn f (o + 1) (x / 2)]
theorem pop_count : ∀ f x, Lib.popAux f x = (bitsN f x).count true
  | 0, _ => rfl
  | f + 1, x => by
    simp only [Lib.popAux, bitsN, List.count_cons, pop_count f (x / 2)]
    by_cases h : x % 2 = 1
    · simp [h]; omega
    · have : x % 2 = 0 := by omega
      simp [this]
theorem posn_append : ∀ a o b, posn o (a ++ b) = posn o a ++ posn (o + a.length) b
  | [], o, b => by simp [posn]
  | c :: a, o, b => by
    simp only [List.cons_append, posn, List.length_cons, posn_append a (o + 1) b, show o + 1 + a.length = o + (a.length + 1) by omega]
    split <;> simp
theorem posn_false : ∀ n o, posn o (List.replicate n false) = []
  | 0, _ => rfl
  | n + 1, o => by simp [List.replicate_succ, posn, posn_false n]
theorem posn_length : ∀ x o, (posn o x).length = x.count true
  | [], _ => rfl
  | b :: x, o => by cases b <;> simp [posn, posn_length x]
def flat (ws : List Nat) : List Bool := ws.flatMap (bitsN 64)
def bit (ws : List Nat) (i : Nat) : Bool := (ws.getD (i / 64) 0).testBit (i % 64)
theorem flat_length : ∀ ws, (flat ws).length = 64 * ws.length
  | [] => rfl
  | w :: ws => by
    have := flat_length ws
    simp only [flat, List.flatMap_cons, List.length_append, bitsN_length, List.length_cons] at this ⊢
    omega
theorem flat_get : ∀ ws i, i < 64 * ws.length → (flat ws)[i]? = some (bit ws i)
  | [], i, h => by simp at h
  | w :: ws, i, h => by
    simp only [flat, List.flatMap_cons]
    rcases Nat.lt_or_ge i 64 with h1 | h1
    · rw [List.getElem?_append_left (by rw [bitsN_length]; exact h1), bitsN_get 64 w i h1]
      simp [bit, Nat.div_eq_of_lt h1, Nat.mod_eq_of_lt h1]
    · rw [List.getElem?_append_right (by rw [bitsN_length]; exact h1), bitsN_length]
      have ih := flat_get ws (i - 64) (by simp at h; omega)
      simp only [flat] at ih
      rw [ih]
      have e1 : i / 64 = (i - 64) / 64 + 1 := by omega
      have e2 : i % 64 = (i - 64) % 64 := by omega
      simp [bit, e1, e2]
theorem flat_append (a b : List Nat) : flat (a ++ b) = flat a ++ flat b := by simp [flat]
/-- The words hold the bits, and none beyond. -/
structure Holds (W : List Nat) (x : List Bool) : Prop where
  lim : ∀ n ∈ W, n < 18446744073709551616
  len : W.length = (x.length + 63) / 64
  at_ : ∀ i, bit W i = x.getD i false
theorem Holds.flat {W : List Nat} {x : List Bool} (h : Holds W x) : flat W = x ++ List.replicate (64 * W.length - x.length) false := by
  have hl := h.len
  apply List.ext_getElem?
  intro i
  rcases Nat.lt_or_ge i (64 * W.length) with h1 | h1
  · rw [flat_get W i h1, h.at_ i]
    rcases Nat.lt_or_ge i x.length with h2 | h2
    · rw [List.getElem?_append_left h2, List.getD_eq_getElem?_getD, List.getElem?_eq_getElem h2]; rfl
    · rw [List.getElem?_append_right h2, List.getElem?_replicate, if_pos (by omega), List.getD_eq_getElem?_getD, List.getElem?_eq_none h2]; rfl
  · rw [List.getElem?_eq_none (by rw [flat_length]; exact h1), List.getElem?_eq_none (by simp; omega)]
theorem Holds.posn {W : List Nat} {x : List Bool} (h : Holds W x) : posn 0 (BitsMath.flat W) = BitsMath.posn 0 x := by
  rw [h.flat, posn_append, posn_false, List.append_nil]
theorem getD_lt {W : List Nat} (h : ∀ n ∈ W, n < 18446744073709551616) (i : Nat) : W.getD i 0 < 18446744073709551616 := by
  rw [List.getD_eq_getElem?_getD]
  rcases Nat.lt_or_ge i W.length with h1 | h1
  · rw [List.getElem?_eq_getElem h1]; exact h _ (List.getElem_mem h1)
  · rw [List.getElem?_eq_none h1]; decide
theorem Holds.set {W : List Nat} {x : List Bool} (h : Holds W x) (i : Nat) (hi : i < x.length) : Holds (W.set (i / 64) (W.getD (i / 64) 0 ||| 2 ^ (i % 64))) (x.set i true) := by
  have hl := h.len
  refine ⟨fun n hn => ?_, by simp [hl], fun j => ?_⟩
  · rcases List.mem_or_eq_of_mem_set hn with h1 | h1
    · exact h.lim n h1
    · rw [h1]
      have hp : 2 ^ (i % 64) < 2 ^ 64 := Nat.pow_lt_pow_right (by decide) (by omega)
      exact Nat.or_lt_two_pow (n := 64) (getD_lt h.lim _) hp
  · have ha := h.at_ j
    unfold bit at ha ⊢
    have hw : i / 64 < W.length := by omega
    rw [List.getD_eq_getElem?_getD (l := W.set _ _), List.getElem?_set, List.getD_eq_getElem?_getD (l := x.set _ _), List.getElem?_set]
    by_cases hj : i / 64 = j / 64
    · rw [if_pos hj]
      rw [if_pos (by omega)]
      simp only [Option.getD_some]
      rw [hj, Nat.testBit_or, ha, Nat.testBit_two_pow]
      by_cases hij : i = j
      · subst hij; simp [hi]
      · have : ¬ (i % 64 = j % 64) := by omega
        simp [this, hij]
    · rw [if_neg hj, if_neg (by intro e; exact hj (by rw [e]))]
      rw [← List.getD_eq_getElem?_getD, ha, List.getD_eq_getElem?_getD]
theorem Holds.zero (n : Nat) : Holds (List.replicate ((n + 63) / 64) 0) (List.replicate n false) := by
  refine ⟨fun m hm => ?_, by simp, fun i => ?_⟩
  · rw [(List.mem_replicate.1 hm).2]; decide
  · unfold bit
    have e : (List.replicate ((n + 63) / 64) 0).getD (i / 64) 0 = 0 := by
      rw [List.getD_eq_getElem?_getD, List.getElem?_replicate]; split <;> rfl
    rw [e, Nat.zero_testBit, List.getD_eq_getElem?_getD, List.getElem?_replicate]
    split <;> rfl
end Go.Proofs.YtkkikddocgckbaaDoor.BitsMath
end

section
/- What the sets of bits compute, plainly: the words hold the places, and the document's row of truths tells the same. -/
namespace Go.Proofs.YtkkikddocgckbaaDoor.BPure
open Go.RowKit Go.Proofs.YtkkikddocgckbaaDoor.PBit Go.Proofs.YtkkikddocgckbaaDoor.Given Go.Proofs.YtkkikddocgckbaaDoor.BitsMath Go.Proofs.YtkkikddocgckbaaDoorW.PrintWords Go.Proofs.YtkkikddocgckbaaDoorW.PrintLast Go.Proofs.YtkkikddocgckbaaDoorW.PrintMore
set_option linter.unusedVariables false
set_option linter.unusedSimpArgs false
theorem w64 (x : Int) (h0 : -9223372036854775808 ≤ x) (h1 : x < 9223372036854775808) : wrap64 x = x := by unfold wrap64; omega
def up (W : List Nat) : List Int := W.map (fun (n : Nat) => (n : Int))
theorem up_len (W : List Nat) : (up W).length = W.length := by simp [up]
theorem rd_up (W : List Nat) (i : Nat) : rd (up W) (i : Int) = ((W.getD i 0 : Nat) : Int) := by
  unfold rd up
  rw [Int.toNat_natCast, List.getD_eq_getElem?_getD, List.getD_eq_getElem?_getD, List.getElem?_map]
  cases W[i]? <;> rfl
theorem up_set (W : List Nat) (i n : Nat) : (up W).set i (n : Int) = up (W.set i n) := by simp [up, List.map_set]
theorem rdOf_at (x : List Bool) (i : Nat) : rdOf false x (i : Int) = x.getD i false := by unfold rdOf; rw [Int.toNat_natCast]
/-- A set of so much room, and its words, and the document's truths. -/
structure Rep (R : Int) (l : List Int) (x : List Bool) (W : List Nat) : Prop where
  room : R = (x.length : Int)
  lim : x.length ≤ 65536
  words : l = up W
  holds : Holds W x
theorem Rep.wlen {R : Int} {l : List Int} {x : List Bool} {W : List Nat} (h : Rep R l x W) : W.length ≤ 1024 ∧ x.length ≤ 64 * W.length := by
  have := h.holds.len
  have := h.lim
  omega
theorem rooms (n : Nat) (h : n ≤ 65536) : roomR (n : Int) = n ∧ wordsR (n : Int) = (n + 63) / 64 := by
  have e : roomR (n : Int) = n := by unfold roomR mx mn; (repeat' split) <;> omega
  refine ⟨e, ?_⟩
  unfold wordsR
  rw [e]
  omega
theorem rooms_any (a : Int) : ∃ n : Nat, n ≤ 65536 ∧ roomR a = n ∧ wordsR a = (n + 63) / 64 := by
  have h := roomR_lim a
  refine ⟨(roomR a).toNat, by omega, by omega, ?_⟩
  unfold wordsR
  omega
theorem new_is (a : Int) : ∃ n : Nat, n ≤ 65536 ∧ roomR a = n ∧ bits_New.f a = some ((n : Int), up (List.replicate ((n + 63) / 64) 0)) ∧ ladderbackref06_New.f a = some (List.replicate n false) ∧ Rep (n : Int) (up (List.replicate ((n + 63) / 64) 0)) (List.replicate n false) (List.replicate ((n + 63) / 64) 0) := by
  obtain ⟨n, hn, e1, e2⟩ := rooms_any a
  refine ⟨n, hn, e1, ?_, ?_, ⟨by simp, by simpa using hn, rfl, Holds.zero n⟩⟩
  · unfold bits_New.f; rw [e1, e2]; simp [up]
  · unfold ladderbackref06_New.f
    have : n = (roomR a).toNat := by omega
    subst this
    unfold roomR mx mn
    by_cases h1 : a < 0
    · rw [if_pos h1, if_neg (by decide), if_pos (by decide)]
      have : (if (65536 : Int) < a then (65536 : Int) else a) = a := if_neg (by omega)
      simp only [this]
      rw [if_neg (by omega)]; rfl
    · rw [if_neg h1]
      by_cases h2 : a > 65536
      · rw [if_pos h2, if_pos (by decide)]
        simp only [show (65536 : Int) < a from h2, if_true]; rfl
      · rw [if_neg h2, if_pos (by omega), if_pos (by omega)]
        have : (if (65536 : Int) < a then (65536 : Int) else a) = a := if_neg h2
        simp only [this]
        by_cases h3 : 0 < a
        · rw [if_pos h3]
        · rw [if_neg h3, show a = 0 by omega]
def upd (x : List Bool) (i : Int) : List Bool := if 0 ≤ i ∧ i < (x.length : Int) then x.set i.toNat true else x
theorem upd_len (x : List Bool) (i : Int) : (upd x i).length = x.length := by unfold upd; split <;> simp
theorem div64 (i : Nat) (h : i ≤ 65536) : wrap64 (Int.tdiv (i : Int) 64) = ((i / 64 : Nat) : Int) ∧ Int.tmod (i : Int) 64 = ((i % 64 : Nat) : Int) := by
  have e : Int.tdiv (i : Int) 64 = ((i / 64 : Nat) : Int) := rfl
  refine ⟨by rw [e, w64 _ (by omega) (by omega)], rfl⟩
theorem shl1 (j : Nat) (h : j < 64) : shl .u64 1 (j : Int) = ((2 ^ j : Nat) : Int) := by
  unfold shl
  have hp : 2 ^ j < 2 ^ 64 := Nat.pow_lt_pow_right (by decide) h
  have e : min (j : Int).toNat IntKind.u64.bits = j := by rw [Int.toNat_natCast]; exact Nat.min_eq_left (by show j ≤ 64; omega)
  rw [e, Int.one_mul, wrap_u64n]
  have e2 : ((2 : Int) ^ j) = ((2 ^ j : Nat) : Int) := by rw [Int.natCast_pow]; rfl
  rw [e2]
  generalize 2 ^ j = p at hp ⊢
  omega
theorem set_step {R : Int} {l : List Int} {x : List Bool} {W : List Nat} (h : Rep R l x W) (i : Nat) (hi : i < x.length) :
    l.set (((i / 64 : Nat) : Int)).toNat (Go.bits .or .u64 (rd l ((i / 64 : Nat) : Int)) (shl .u64 1 ((i % 64 : Nat) : Int))) = up (W.set (i / 64) (W.getD (i / 64) 0 ||| 2 ^ (i % 64))) := by
  have hp : 2 ^ (i % 64) < 2 ^ 64 := Nat.pow_lt_pow_right (by decide) (by omega)
  rw [h.words, rd_up, shl1 _ (by omega), or_u64_nat _ _ (getD_lt h.holds.lim _) (by omega), Int.toNat_natCast, up_set]
theorem set_rep {R : Int} {l : List Int} {x : List Bool} {W : List Nat} (h : Rep R l x W) (i : Nat) (hi : i < x.length) :
    Rep R (up (W.set (i / 64) (W.getD (i / 64) 0 ||| 2 ^ (i % 64)))) (x.set i true) (W.set (i / 64) (W.getD (i / 64) 0 ||| 2 ^ (i % 64))) :=
  ⟨by rw [h.room]; simp, by simpa using h.lim, rfl, h.holds.set i hi⟩
theorem copyW_self (W : List Nat) : copyW W.length (up W) = up W := by unfold copyW; rw [up_len, Nat.sub_self, List.replicate_zero, List.append_nil, ← up_len W, List.take_length]
theorem with_is {R : Int} {l : List Int} {x : List Bool} {W : List Nat} (h : Rep R l x W) (i : Int) : ∃ l' W', bits_Set_With.f R l i = some (R, l') ∧ Rep R l' (upd x i) W' := by
  have hl := h.wlen
  have hlim := h.lim
  unfold bits_Set_With.f upd
  by_cases h1 : i < 0
  · rw [if_pos h1, if_neg (by omega)]
    exact ⟨l, W, rfl, h⟩
  · rw [if_neg h1]
    by_cases h2 : i ≥ R
    · rw [if_pos h2, if_neg (by rw [h.room] at h2; omega)]
      exact ⟨l, W, rfl, h⟩
    · rw [if_neg h2]
      obtain ⟨n, rfl⟩ : ∃ n : Nat, i = n := ⟨i.toNat, by omega⟩
      have hn : n < x.length := by rw [h.room] at h2; omega
      rw [if_pos (by omega), Int.toNat_natCast]
      have hr := rooms x.length hlim
      have e : bits_Set_copied.f R l R = some (R, l) := by
        unfold bits_Set_copied.f
        rw [h.room, hr.1, hr.2, ← h.holds.len, h.words, copyW_self]
      rw [e, Option.bind_some]
      simp only
      obtain ⟨d1, d2⟩ := div64 n (by omega)
      have hlen : l.length = W.length := by rw [h.words, up_len]
      rw [d1, d2, if_pos (by omega), if_pos (by rw [hlen]; omega), if_pos (by omega), set_step h n hn]
      exact ⟨_, _, rfl, set_rep h n hn⟩
theorem rwith_is (x : List Bool) (i : Int) (hx : x.length ≤ 65536) : ladderbackref06_With.f x i = some (upd x i) := by
  unfold ladderbackref06_With.f upd
  simp only [Option.bind_some, List.length_nil, List.nil_append]
  rw [if_pos (by omega)]
  by_cases h1 : i ≥ 0
  · rw [if_pos h1]
    by_cases h2 : i < (x.length : Int)
    · have h1' : 0 ≤ i := h1
      simp only [h2, h1', and_self, if_true]
    · rw [if_neg h2, if_neg (by omega)]
  · rw [if_neg h1, if_neg (by omega)]
theorem of_loop (L : List Int) (hL : L.length ≤ 60) : ∀ (m j : Nat) (R : Int) (l : List Int) (x : List Bool) (W : List Nat), Rep R l x W → j + m = L.length → ∀ k, m + 1 ≤ k →
    ∃ l' x' W', ladderbacklaw06_of.l0 k L x (j : Int) R l = some (R, l', x') ∧ Rep R l' x' W' := by
  intro m
  induction m with
  | zero =>
    intro j R l x W h hj k hk
    obtain ⟨k, rfl⟩ : ∃ k', k = k' + 1 := ⟨k - 1, by omega⟩
    unfold ladderbacklaw06_of.l0
    rw [if_neg (by omega)]
    exact ⟨l, x, W, rfl, h⟩
  | succ m ih =>
    intro j R l x W h hj k hk
    obtain ⟨k, rfl⟩ : ∃ k', k = k' + 1 := ⟨k - 1, by omega⟩
    unfold ladderbacklaw06_of.l0
    rw [if_pos (by omega), if_pos (by omega)]
    obtain ⟨l', W', e, h'⟩ := with_is h (rd L (j : Int))
    rw [e, Option.bind_some, rwith_is x _ h.lim, Option.bind_some, w64 _ (by omega) (by omega)]
    exact ih (j + 1) R l' _ W' h' (by omega) k (by omega)
theorem of_is (a : Int) (L : List Int) (hL : L.length ≤ 60) (k : Nat) (hk : 61 ≤ k) : ∃ R l x W, ladderbacklaw06_of.f k a L = some (R, l, x) ∧ Rep R l x W ∧ roomR a = R := by
  obtain ⟨n, hn, e0, e1, e2, h⟩ := new_is a
  unfold ladderbacklaw06_of.f
  rw [e1, Option.bind_some, e2, Option.bind_some]
  obtain ⟨l', x', W', e, h'⟩ := of_loop L hL L.length 0 _ _ _ _ h (by omega) k (by omega)
  exact ⟨_, l', x', W', e, h', e0⟩
-- the places
theorem step_word (k : Nat) (l : List Int) (n j : Int) (hl : 0 ≤ j) (jn : Nat) (hj : j = (jn : Int)) (hjn : jn ≤ 1024) : ∀ (c : Nat) (x : Nat) (acc : List Int), x < 18446744073709551616 → (places 64 (64 * jn) x).length = c → acc.length + c ≤ 70000 →
    bits_Set_List.l1 (c + 1 + k) acc j (x : Int) l n j = bits_Set_List.l0 k (acc ++ (places 64 (64 * jn) x).map (fun (n : Nat) => (n : Int))) l n (wrap64 (j + 1)) := by
  intro c
  induction c with
  | zero =>
    intro x acc hx hc hacc
    have h0 : x = 0 := by
      rcases Nat.eq_zero_or_pos x with h | h
      · exact h
      · rw [places_step 64 (64 * jn) x (by omega) hx] at hc; simp at hc
    subst h0
    rw [show 0 + 1 + k = k + 1 by omega, bits_Set_List.l1, if_pos (show ((0 : Nat) : Int) = 0 from rfl), places_zero, List.map_nil, List.append_nil]
  | succ c ih =>
    intro x acc hx hc hacc
    have h0 : x ≠ 0 := by intro h; subst h; rw [places_zero] at hc; simp at hc
    have hs := places_step 64 (64 * jn) x h0 hx
    rw [hs] at hc ⊢
    rw [show c + 1 + 1 + k = (c + 1 + k) + 1 by omega, bits_Set_List.l1, if_neg (by omega)]
    have ht : bits_TrailingZeros64.f (x : Int) = some ((Lib.ctzFrom 64 x : Nat) : Int) := by
      unfold bits_TrailingZeros64.f
      rw [if_pos (by omega), Int.toNat_natCast]
      unfold Lib.ctz
      rw [if_neg h0]
    have hlt : Lib.ctzFrom 64 x < 64 := (Lib.ctzFrom_spec 64 x (by omega) hx).choose_spec.2
    have ha : x &&& (x - 1) < 18446744073709551616 := Nat.lt_of_le_of_lt Nat.and_le_left hx
    have hw : IntKind.u64.wrap ((x : Int) - 1) = ((x - 1 : Nat) : Int) := by rw [wrap_u64n]; omega
    rw [ht, Option.bind_some, if_pos (by omega), hw, and_u64_nat x (x - 1) hx (by omega)]
    rw [ih (x &&& (x - 1)) _ ha (by simpa using hc) (by simp; omega)]
    have e1 : wrap64 (wrap64 (64 * j) + ((Lib.ctzFrom 64 x : Nat) : Int)) = ((64 * jn + Lib.ctzFrom 64 x : Nat) : Int) := by
      rw [w64 (64 * j) (by omega) (by omega), w64 _ (by omega) (by omega)]; omega
    rw [e1]
    simp
theorem places_le (o x : Nat) : (places 64 o x).length ≤ 64 := by
  rw [places_posn, posn_length]
  exact Nat.le_trans List.count_le_length (Nat.le_of_eq (bitsN_length 64 x))
theorem flat_take (W : List Nat) (j : Nat) (h : j < W.length) : posn 0 (flat (W.take (j + 1))) = posn 0 (flat (W.take j)) ++ places 64 (64 * j) (W.getD j 0) := by
  rw [List.take_add_one, List.getElem?_eq_getElem h, flat_append, posn_append, flat_length, List.length_take, Nat.min_eq_left (by omega), places_posn]
  congr 2
  · omega
  · simp [flat, List.getD_eq_getElem?_getD, List.getElem?_eq_getElem h]
theorem list_loop {W : List Nat} (hW : ∀ n ∈ W, n < 18446744073709551616) (hw : W.length ≤ 1024) : ∀ (m j : Nat), j + m = W.length → ∀ k, 66 * m + 1 ≤ k →
    bits_Set_List.l0 k ((posn 0 (flat (W.take j))).map (fun (n : Nat) => (n : Int))) (up W) (W.length : Int) (j : Int) = some ((posn 0 (flat W)).map (fun (n : Nat) => (n : Int))) := by
  intro m
  induction m with
  | zero =>
    intro j hj k hk
    obtain ⟨k, rfl⟩ : ∃ k', k = k' + 1 := ⟨k - 1, by omega⟩
    rw [bits_Set_List.l0, if_neg (by omega), show j = W.length by omega, List.take_length]
  | succ m ih =>
    intro j hj k hk
    obtain ⟨k, rfl⟩ : ∃ k', k = k' + 1 := ⟨k - 1, by omega⟩
    rw [bits_Set_List.l0, if_pos (by omega), if_pos (by omega), if_pos (by rw [up_len]; omega), rd_up]
    have hc := places_le (64 * j) (W.getD j 0)
    obtain ⟨q, hq⟩ : ∃ q, k = (places 64 (64 * j) (W.getD j 0)).length + 1 + q := ⟨k - ((places 64 (64 * j) (W.getD j 0)).length + 1), by omega⟩
    have hlen : ((posn 0 (flat (W.take j))).map (fun (n : Nat) => (n : Int))).length ≤ 65536 := by
      rw [List.length_map, posn_length]
      refine Nat.le_trans List.count_le_length ?_
      rw [flat_length, List.length_take]; omega
    rw [hq, step_word q (up W) W.length j (by omega) j rfl (by omega) _ _ _ (getD_lt hW j) rfl (by omega), w64 _ (by omega) (by omega), ← List.map_append, ← flat_take W j (by omega)]
    exact ih (j + 1) (by omega) q (by omega)
def lst (x : List Bool) : List Int := (posn 0 x).map (fun (n : Nat) => (n : Int))
theorem lst_len (x : List Bool) : (lst x).length = x.count true := by simp [lst, posn_length]
theorem list_is {R : Int} {l : List Int} {x : List Bool} {W : List Nat} (h : Rep R l x W) (k : Nat) (hk : 67586 ≤ k) : bits_Set_List.f k R l = some (lst x) := by
  have hl := h.wlen
  unfold bits_Set_List.f
  rw [h.words, up_len]
  have := list_loop h.holds.lim hl.1 W.length 0 (by omega) k (by omega)
  rw [h.holds.posn] at this
  exact this
theorem rlist_loop (x : List Bool) (hx : x.length ≤ 65536) : ∀ (m j : Nat), j + m = x.length → ∀ k, m + 1 ≤ k →
    ladderbackref06_List.l0 k x ((posn 0 (x.take j)).map (fun (n : Nat) => (n : Int))) (j : Int) = some (lst x) := by
  intro m
  induction m with
  | zero =>
    intro j hj k hk
    obtain ⟨k, rfl⟩ : ∃ k', k = k' + 1 := ⟨k - 1, by omega⟩
    rw [ladderbackref06_List.l0, if_neg (by omega), show j = x.length by omega, List.take_length, lst]
  | succ m ih =>
    intro j hj k hk
    obtain ⟨k, rfl⟩ : ∃ k', k = k' + 1 := ⟨k - 1, by omega⟩
    have hlt : j < x.length := by omega
    have hlen : ((posn 0 (x.take j)).map (fun (n : Nat) => (n : Int))).length ≤ 65536 := by
      rw [List.length_map, posn_length]
      exact Nat.le_trans List.count_le_length (by rw [List.length_take]; omega)
    have ht : posn 0 (x.take (j + 1)) = posn 0 (x.take j) ++ (if x.getD j false = true then [j] else []) := by
      rw [List.take_add_one, List.getElem?_eq_getElem hlt, posn_append, List.length_take, Nat.min_eq_left (by omega), List.getD_eq_getElem?_getD, List.getElem?_eq_getElem hlt]
      simp [posn]
    have ih' := ih (j + 1) (by omega) k (by omega)
    rw [ht] at ih'
    rw [ladderbackref06_List.l0, if_pos (by omega), if_pos (by omega), rdOf_at, w64 _ (by omega) (by omega)]
    by_cases hb : x.getD j false = true
    · rw [if_pos hb, if_pos (by omega)]
      rw [if_pos hb, List.map_append] at ih'
      exact ih'
    · rw [if_neg hb]
      rw [if_neg hb, List.append_nil] at ih'
      exact ih'
theorem rlist_is (x : List Bool) (hx : x.length ≤ 65536) (k : Nat) (hk : 65537 ≤ k) : ladderbackref06_List.f k x = some (lst x) := rlist_loop x hx x.length 0 (by omega) k (by omega)
theorem and_i64_nat (a b : Nat) (ha : a < 9223372036854775808) (hb : b < 9223372036854775808) : Go.bits .and .i64 (a : Int) (b : Int) = ((a &&& b : Nat) : Int) := by
  have hx : a &&& b < 2 ^ 63 := Nat.and_lt_two_pow _ (by omega)
  have h1 : (BitVec.ofInt 64 (a : Int)).toNat = a := by
    rw [BitVec.ofInt_natCast, BitVec.toNat_ofNat]; exact Nat.mod_eq_of_lt (by omega)
  have h2 : (BitVec.ofInt 64 (b : Int)).toNat = b := by
    rw [BitVec.ofInt_natCast, BitVec.toNat_ofNat]; exact Nat.mod_eq_of_lt (by omega)
  show IntKind.i64.wrap ((BitVec.ofInt 64 (a : Int) &&& BitVec.ofInt 64 (b : Int)).toNat : Int) = _
  rw [BitVec.toNat_and, h1, h2]
  simp only [IntKind.wrap, IntKind.signed, IntKind.bits]
  generalize a &&& b = c at hx ⊢
  simp
  omega
theorem and127 (n : Nat) : n &&& 127 = n % 128 := Nat.and_two_pow_sub_one_eq_mod n 7
theorem swar_end (v : Nat) (hv : v ≤ 700000000000000000) : Go.bits .and .i64 (wrap64 (IntKind.u64.wrap ((v : Int) + (v : Int) / 4294967296))) 127 = (((v + v / 4294967296) % 128 : Nat) : Int) := by
  have e1 : IntKind.u64.wrap ((v : Int) + (v : Int) / 4294967296) = ((v + v / 4294967296 : Nat) : Int) := by rw [wrap_u64n]; omega
  have hb : v + v / 4294967296 ≤ 800000000000000000 := by omega
  rw [e1]
  generalize v + v / 4294967296 = u at hb ⊢
  rw [w64 _ (by omega) (by omega)]
  have := and_i64_nat u 127 (by omega) (by omega)
  rw [and127] at this
  exact this
theorem ones_is (x : Nat) (hx : x < 18446744073709551616) : bits_OnesCount64.f (x : Int) = some ((Lib.popAux 64 x : Nat) : Int) := by
  have r1 : rep 85 8 = 6148914691236517205 := by decide
  have r2 : rep 51 8 = 3689348814741910323 := by decide
  have r3 : rep 15 8 = 1085102592571150095 := by decide
  have s1 : IntKind.u64.wrap (Go.bits .and .u64 ((x : Int) / 2) 6148914691236517205 + Go.bits .and .u64 (x : Int) 6148914691236517205) = ((F1 8 x : Nat) : Int) ∧ F1 8 x < 18446744073709551616 := by
    have a1 := and_u64_nat (x / 2) 6148914691236517205 (by omega) (by decide)
    have a2 := and_u64_nat x 6148914691236517205 hx (by decide)
    have b1 : x / 2 &&& 6148914691236517205 ≤ 6148914691236517205 := Nat.and_le_right
    have b2 : x &&& 6148914691236517205 ≤ 6148914691236517205 := Nat.and_le_right
    have e : ((x : Int) / 2) = ((x / 2 : Nat) : Int) := by omega
    unfold F1
    rw [r1, e]
    refine ⟨?_, by omega⟩
    rw [show (6148914691236517205 : Int) = ((6148914691236517205 : Nat) : Int) from rfl, a1, a2, wrap_u64n]
    omega
  have s2 : ∀ y : Nat, y < 18446744073709551616 → IntKind.u64.wrap (Go.bits .and .u64 ((y : Int) / 4) 3689348814741910323 + Go.bits .and .u64 (y : Int) 3689348814741910323) = ((F2 8 y : Nat) : Int) ∧ F2 8 y ≤ 7378697629483820646 := by
    intro y hy
    have a1 := and_u64_nat (y / 4) 3689348814741910323 (by omega) (by decide)
    have a2 := and_u64_nat y 3689348814741910323 hy (by decide)
    have b1 : y / 4 &&& 3689348814741910323 ≤ 3689348814741910323 := Nat.and_le_right
    have b2 : y &&& 3689348814741910323 ≤ 3689348814741910323 := Nat.and_le_right
    have e : ((y : Int) / 4) = ((y / 4 : Nat) : Int) := by omega
    unfold F2
    rw [r2, e]
    refine ⟨?_, by omega⟩
    rw [show (3689348814741910323 : Int) = ((3689348814741910323 : Nat) : Int) from rfl, a1, a2, wrap_u64n]
    omega
  have s3 : ∀ y : Nat, y ≤ 7378697629483820646 → Go.bits .and .u64 (IntKind.u64.wrap ((y : Int) / 16 + (y : Int))) 1085102592571150095 = ((F3 8 y : Nat) : Int) := by
    intro y hy
    have e : IntKind.u64.wrap ((y : Int) / 16 + (y : Int)) = ((y / 16 + y : Nat) : Int) := by rw [wrap_u64n]; omega
    unfold F3
    rw [r3, e, show (1085102592571150095 : Int) = ((1085102592571150095 : Nat) : Int) from rfl, and_u64_nat _ _ (by omega) (by decide)]
  unfold bits_OnesCount64.f
  rw [s1.1, (s2 _ s1.2).1, s3 _ (s2 _ s1.2).2, swar]
  obtain ⟨p0, p1, p2, p3, p4, p5, p6, p7, h0, h1, h2, h3, h4, h5, h6, h7, hy, hp⟩ := cnts_eight x
  have hf := fold1 p0 p1 p2 p3 p4 p5 p6 p7 _ h0 h1 h2 h3 h4 h5 h6 h7 hy
  have hb : cnts 8 x ≤ 578721382704613384 := by omega
  rw [hp, ← hf]
  generalize cnts 8 x = y at hb ⊢
  have e1 : IntKind.u64.wrap ((y : Int) + (y : Int) / 256) = ((y + y / 256 : Nat) : Int) := by rw [wrap_u64n]; omega
  rw [e1]
  have hb2 : y + y / 256 ≤ 600000000000000000 := by omega
  generalize y + y / 256 = z at hb2 ⊢
  have e2 : IntKind.u64.wrap ((z : Int) + (z : Int) / 65536) = ((z + z / 65536 : Nat) : Int) := by rw [wrap_u64n]; omega
  rw [e2]
  have hb3 : z + z / 65536 ≤ 700000000000000000 := by omega
  generalize z + z / 65536 = v at hb3 ⊢
  exact congrArg some (swar_end v hb3)
theorem count_loop {W : List Nat} (hW : ∀ n ∈ W, n < 18446744073709551616) (hw : W.length ≤ 1024) : ∀ (m j : Nat), j + m = W.length → ∀ k, m + 1 ≤ k →
    bits_Set_Count.l0 k (((flat (W.take j)).count true : Nat) : Int) (up W) (W.length : Int) (j : Int) = some (((flat W).count true : Nat) : Int) := by
  intro m
  induction m with
  | zero =>
    intro j hj k hk
    obtain ⟨k, rfl⟩ : ∃ k', k = k' + 1 := ⟨k - 1, by omega⟩
    rw [bits_Set_Count.l0, if_neg (by omega), show j = W.length by omega, List.take_length]
  | succ m ih =>
    intro j hj k hk
    obtain ⟨k, rfl⟩ : ∃ k', k = k' + 1 := ⟨k - 1, by omega⟩
    rw [bits_Set_Count.l0, if_pos (by omega), if_pos (by omega), if_pos (by rw [up_len]; omega), rd_up, ones_is _ (getD_lt hW j), Option.bind_some]
    have hlt : j < W.length := by omega
    have hlen : (flat (W.take j)).count true ≤ 65536 := Nat.le_trans List.count_le_length (by rw [flat_length, List.length_take]; omega)
    have hp : Lib.popAux 64 (W.getD j 0) ≤ 64 := by rw [pop_count]; exact Nat.le_trans List.count_le_length (Nat.le_of_eq (bitsN_length 64 _))
    have e : (flat (W.take (j + 1))).count true = (flat (W.take j)).count true + Lib.popAux 64 (W.getD j 0) := by
      rw [List.take_add_one, List.getElem?_eq_getElem hlt, flat_append, List.count_append, pop_count]
      simp [flat, List.getD_eq_getElem?_getD, List.getElem?_eq_getElem hlt]
    rw [w64 _ (by omega) (by omega), w64 _ (by omega) (by omega)]
    have := ih (j + 1) (by omega) k (by omega)
    rw [e] at this
    exact this
theorem count_is {R : Int} {l : List Int} {x : List Bool} {W : List Nat} (h : Rep R l x W) (k : Nat) (hk : 1026 ≤ k) : bits_Set_Count.f k R l = some ((x.count true : Nat) : Int) := by
  have hl := h.wlen
  unfold bits_Set_Count.f
  rw [h.words, up_len]
  have := count_loop h.holds.lim hl.1 W.length 0 (by omega) k (by omega)
  rw [h.holds.flat, List.count_append] at this
  simpa [List.count_replicate, BitsMath.flat] using this
theorem like_loop (L : List Int) (hL : L.length ≤ 65536) : ∀ (m j : Nat), j + m = L.length → ∀ k, m + 1 ≤ k → ladderbacklaw06_like.l0 k L L (j : Int) = some true := by
  intro m
  induction m with
  | zero =>
    intro j hj k hk
    obtain ⟨k, rfl⟩ : ∃ k', k = k' + 1 := ⟨k - 1, by omega⟩
    rw [ladderbacklaw06_like.l0, if_neg (by omega)]
  | succ m ih =>
    intro j hj k hk
    obtain ⟨k, rfl⟩ : ∃ k', k = k' + 1 := ⟨k - 1, by omega⟩
    rw [ladderbacklaw06_like.l0, if_pos (by omega), if_pos (by omega), if_pos (by omega), if_pos rfl, w64 _ (by omega) (by omega)]
    exact ih (j + 1) (by omega) k (by omega)
theorem like_is {R : Int} {l : List Int} {x : List Bool} {W : List Nat} (h : Rep R l x W) (k : Nat) (hk : 70000 ≤ k) : ladderbacklaw06_like.f k R l x = some true := by
  have hlim := h.lim
  have hc : (lst x).length ≤ 65536 := by rw [lst_len]; exact Nat.le_trans List.count_le_length hlim
  unfold ladderbacklaw06_like.f
  rw [list_is h k (by omega), Option.bind_some, rlist_is x hlim k (by omega), Option.bind_some]
  unfold bits_Set_Room.f
  rw [Option.bind_some, if_pos h.room, if_pos rfl, count_is h k (by omega), Option.bind_some, lst_len]
  obtain ⟨k, rfl⟩ : ∃ k', k = k' + 1 := ⟨k - 1, by omega⟩
  rw [ladderbacklaw06_like.j0, bne_self_eq_false, if_neg (by decide)]
  exact like_loop (lst x) hc (lst x).length 0 (by omega) k (by omega)
theorem has_is {R : Int} {l : List Int} {x : List Bool} {W : List Nat} (h : Rep R l x W) (i : Int) : ∃ b, bits_Set_Has.f R l i = some b ∧ ladderbackref06_Has.f x i = some b := by
  have hl := h.wlen
  have hlim := h.lim
  unfold bits_Set_Has.f ladderbackref06_Has.f
  by_cases h1 : i ≥ 0
  · rw [if_pos h1, if_pos h1]
    by_cases h2 : i < R
    · rw [if_pos h2]
      obtain ⟨n, rfl⟩ : ∃ n : Nat, i = n := ⟨i.toNat, by omega⟩
      have hn : n < x.length := by rw [h.room] at h2; omega
      obtain ⟨d1, d2⟩ := div64 n (by omega)
      have hlen : l.length = W.length := by rw [h.words, up_len]
      rw [d1, d2, if_pos (by omega), if_pos (by rw [hlen]; omega), if_pos (by omega), if_pos (by omega), if_pos (by omega), rdOf_at, h.words, rd_up]
      refine ⟨_, ?_, rfl⟩
      have hs : shr .u64 ((W.getD (n / 64) 0 : Nat) : Int) ((n % 64 : Nat) : Int) = ((W.getD (n / 64) 0 / 2 ^ (n % 64) : Nat) : Int) := by
        unfold shr
        have e : min ((n % 64 : Nat) : Int).toNat IntKind.u64.bits = n % 64 := by rw [Int.toNat_natCast]; exact Nat.min_eq_left (by show n % 64 ≤ 64; omega)
        rw [e, Int.natCast_ediv, Int.natCast_pow]; rfl
      have hlt := getD_lt h.holds.lim (n / 64)
      have hd : W.getD (n / 64) 0 / 2 ^ (n % 64) < 18446744073709551616 := Nat.lt_of_le_of_lt (Nat.div_le_self _ _) hlt
      have ha := h.holds.at_ n
      unfold bit at ha
      rw [Nat.testBit_eq_decide_div_mod_eq] at ha
      rw [hs, show (1 : Int) = ((1 : Nat) : Int) from rfl, and_u64_nat _ 1 hd (by decide), Nat.and_one_is_mod, ← ha]
      congr 1
      by_cases hb : W.getD (n / 64) 0 / 2 ^ (n % 64) % 2 = 1
      · rw [hb]; rfl
      · rw [show W.getD (n / 64) 0 / 2 ^ (n % 64) % 2 = 0 by omega]; rfl
    · rw [if_neg h2, if_neg (by rw [h.room] at h2; exact h2)]
      exact ⟨_, rfl, rfl⟩
  · rw [if_neg h1, if_neg h1]
    exact ⟨_, rfl, rfl⟩
theorem all_loop : ∀ (m j : Nat) (R : Int) (l : List Int) (x : List Bool) (W : List Nat), Rep R l x W → j + m = x.length → x.take j = List.replicate j true → ∀ k, m + 1 ≤ k →
    ∃ l' W', bits_All.l0 k R (j : Int) R l = some (R, l') ∧ Rep R l' (List.replicate x.length true) W' := by
  intro m
  induction m with
  | zero =>
    intro j R l x W h hj ht k hk
    obtain ⟨k, rfl⟩ : ∃ k', k = k' + 1 := ⟨k - 1, by omega⟩
    have hx : x = List.replicate x.length true := by
      rw [show j = x.length by omega, List.take_length] at ht; exact ht
    rw [bits_All.l0, if_neg (by rw [h.room]; omega)]
    exact ⟨l, W, rfl, hx ▸ h⟩
  | succ m ih =>
    intro j R l x W h hj ht k hk
    obtain ⟨k, rfl⟩ : ∃ k', k = k' + 1 := ⟨k - 1, by omega⟩
    have hl := h.wlen
    have hlim := h.lim
    have hn : j < x.length := by omega
    obtain ⟨d1, d2⟩ := div64 j (by omega)
    have hlen : l.length = W.length := by rw [h.words, up_len]
    rw [bits_All.l0, if_pos (by rw [h.room]; omega), d1, d2, if_pos (by omega), if_pos (by rw [hlen]; omega), if_pos (by omega), set_step h j hn, w64 _ (by omega) (by omega)]
    have h2 := set_rep h j hn
    obtain ⟨l', W', e, h'⟩ := ih (j + 1) R _ _ _ h2 (by simp; omega) (by
      rw [List.take_add_one, List.take_set_of_le (Nat.le_refl _), ht, List.getElem?_set_self hn, List.replicate_succ']; rfl) k (by omega)
    refine ⟨l', W', e, ?_⟩
    simpa using h'
theorem all_is (a : Int) (k : Nat) (hk : 70000 ≤ k) : ∃ R l, bits_All.f k a = some (R, l) ∧ bits_Set_Count.f k R l = some (roomR a) := by
  obtain ⟨n, hn, e0, e1, _, h⟩ := new_is a
  unfold bits_All.f
  rw [e1, Option.bind_some]
  obtain ⟨l', W', e, h'⟩ := all_loop n 0 _ _ _ _ h (by simp) (by simp) k (by omega)
  refine ⟨_, l', e, ?_⟩
  rw [count_is h' k (by omega), e0]
  simp
theorem awake_is (k : Nat) (hk : 70000 ≤ k) : ladderbacklaw06_awake.f k = some true := by
  obtain ⟨n, hn, e0, e1, _, h⟩ := new_is 9
  have hn9 : n = 9 := by have : roomR 9 = 9 := by decide
                         omega
  subst hn9
  unfold ladderbacklaw06_awake.f
  obtain ⟨l1, W1, w1, h1⟩ := with_is h 5
  obtain ⟨l2, W2, w2, h2⟩ := with_is h1 2
  rw [e1, Option.bind_some, w1, Option.bind_some, w2, Option.bind_some, list_is h2 k (by omega), Option.bind_some]
  have e : lst (upd (upd (List.replicate 9 false) 5) 2) = [2, 5] := by decide
  rw [e]
  decide
end Go.Proofs.YtkkikddocgckbaaDoor.BPure
end

section
/- What two sets of bits have both, or one of both, plainly. -/
namespace Go.Proofs.YtkkikddocgckbaaDoor.BPure
open Go.RowKit Go.Proofs.YtkkikddocgckbaaDoor.PBit Go.Proofs.YtkkikddocgckbaaDoor.Given Go.Proofs.YtkkikddocgckbaaDoor.BitsMath Go.Proofs.YtkkikddocgckbaaDoorW.PrintWords Go.Proofs.YtkkikddocgckbaaDoorW.PrintLast Go.Proofs.YtkkikddocgckbaaDoorW.PrintMore
set_option linter.unusedVariables false
set_option linter.unusedSimpArgs false
def tabN {α : Type} (n : Nat) (g : Nat → α) : List α := (List.range n).map g
def andL (x y : List Bool) : List Bool := tabN (min x.length y.length) (fun i => x.getD i false && y.getD i false)
def orL (x y : List Bool) : List Bool := tabN (max x.length y.length) (fun i => x.getD i false || y.getD i false)
end Go.Proofs.YtkkikddocgckbaaDoor.BPure
end

section
/- A region that draws its order: each operation by itself, whatever order comes up; no conditions. -/
namespace Go.Proofs.YtkkikddocgckbaaDoor.Reg
open Go Go.RowKit Go.Proofs.YtkkikddocgckbaaDoorW.PrintWords Go.Proofs.YtkkikddocgckbaaDoorW.PrintLast
/-- What stands while a region's operations come up in whatever order. D: the slots that they fill; S: what each one's value is. -/
structure RegI (D : List (Option Tmp)) (S : Nat → World → Value → Prop) (a0 : Act) (w0 : World) (b : Nat → Bool) (a : Act) (w : World) : Prop where
  below : Below w0.heap.size w0 w
  defers : a.defers = a0.defers
  size : a.tmps.size = a0.tmps.size
  elder : ∀ t, some t ∉ D → a.tmps[t]? = a0.tmps[t]?
  vals : ∀ (i : Nat) (t : Tmp), D[i]? = some (some t) → b i = true → ∃ v, a.tmps[t]? = some v ∧ S i w v
/-- Operation i, all that it waits for having come up. -/
def RStep (P : Program) (ops : Array Oper) (Q : Exit → Act → World → Prop) (B : List Nat) (D : List (Option Tmp)) (S : Nat → World → Value → Prop) (a0 : Act) (w0 : World) (i : Nat) : Prop :=
  ∀ a w, Below w0.heap.size w0 w → a.tmps.size = a0.tmps.size → (∀ t, some t ∉ D → a.tmps[t]? = a0.tmps[t]?) →
    (∀ (j : Nat) (t : Tmp), (B.getD i 0).testBit j = true → D[j]? = some (some t) → ∃ v, a.tmps[t]? = some v ∧ S j w v) →
    ∃ oi, ops[i]? = some oi ∧ ∀ K : Act → World → Prop, Shut (∀ v w', Below w.heap.size w w' → S i w' v → K (a.put oi.dst v) w') →
      if Region.wanted oi (yielded ops a.tmps) = true then Oper.wp P oi a w K Q else K (a.put oi.dst undef) w
theorem distinct {D : List (Option Tmp)} (h : (D.filterMap id).Nodup) : ∀ {i j : Nat} {t : Tmp}, D[i]? = some (some t) → D[j]? = some (some t) → i = j := by
  induction D with
  | nil => intro i j t hi; simp at hi
  | cons d D ih =>
    intro i j t hi hj
    have mem : ∀ {k : Nat}, D[k]? = some (some t) → t ∈ D.filterMap id := fun {k} hk => List.mem_filterMap.2 ⟨some t, List.mem_of_getElem? hk, rfl⟩
    cases d with
    | none =>
      have h' : (D.filterMap id).Nodup := by simpa using h
      cases i with
      | zero => simp at hi
      | succ i =>
        cases j with
        | zero => simp at hj
        | succ j => exact congrArg (· + 1) (ih h' (by simpa using hi) (by simpa using hj))
    | some u =>
      have h' : u ∉ D.filterMap id ∧ (D.filterMap id).Nodup := by simpa using h
      cases i with
      | zero =>
        cases j with
        | zero => rfl
        | succ j =>
          have hu : u = t := by simpa using hi
          subst hu
          exact absurd (mem (by simpa using hj)) h'.1
      | succ i =>
        cases j with
        | zero =>
          have hu : u = t := by simpa using hj
          subst hu
          exact absurd (mem (by simpa using hi)) h'.1
        | succ j => exact congrArg (· + 1) (ih h'.2 (by simpa using hi) (by simpa using hj))
theorem region_any {P : Program} {ops : Array Oper} {Q : Exit → Act → World → Prop} {id : Nat} {a0 : Act} {w0 : World} (D : List (Option Tmp)) (B : List Nat) (T : Bool × List (List Nat × List Nat)) (S : Nat → World → Value → Prop)
    (hm : P.follows .mixedOrders = true) (hT : rtab .any ops = T) (hB : waitsOk T.2 B = true) (hk : baseOk T.2 (List.range ops.size) = true) (hD : ops.toList.map (·.dst) = D) (hd : (D.filterMap _root_.id).Nodup)
    (hsz : (D.filterMap _root_.id).all (fun t => Nat.blt t a0.tmps.size) = true)
    (hmono : ∀ i w1 w2 v, Below w1.heap.size w1 w2 → S i w1 v → S i w2 v) (O : List Nat) (hO : List.range ops.size = O) (hstep : ∀ i ∈ O, RStep P ops Q B D S a0 w0 i)
    (hend : ∀ a w, RegI D S a0 w0 (fun _ => true) a w → Q .normal a w) : (Code.region id ops true).wp P Q a0 w0 := by
  subst hO
  refine wp_region_last (S := fun _ => True) (ds := []) hm ?_
  have hl : T.2.length = ops.size := by rw [← hT]; exact rtab_length
  refine inv_ (T := T) (B := B) (List.range ops.size) (RegI D S a0 w0) hT hB hk ?_ ?_ ?_ ?_
  · rw [hl]
    simp only [Bool.and_eq_true, beq_iff_eq, List.length_range, and_true]
    apply List.ext_getElem?
    intro j
    by_cases hj : j < ops.size
    · simp [lof, hj]
    · simp [lof, hj]
  · exact ⟨⟨rfl, rfl, rfl, Nat.le_refl _, fun _ _ => rfl⟩, rfl, rfl, fun _ _ => rfl, fun _ _ _ h => by cases h⟩
  · intro i hi b a w hI hb hon hoff
    have hi' : i < ops.size := List.mem_range.1 hi
    obtain ⟨oi, hoi, hK⟩ := hstep i hi a w hI.below hI.size hI.elder (fun j t hj ht => by
      refine hI.vals j t ht (hon j ?_)
      rw [hj, Bool.and_true, List.contains_iff_mem, List.mem_range]
      have := (List.getElem?_eq_some_iff.1 ht).1
      rw [← hD] at this
      simpa using this)
    refine ⟨oi, hoi, fun K hS => hK K (fun v w' hbw hs => hS.out _ _ ?_)⟩
    have hDi : D[i]? = some oi.dst := by rw [← hD, List.getElem?_map, Array.getElem?_toList, hoi]; rfl
    have hbel : Below w0.heap.size w0 w' := hI.below.trans (hbw.mono hI.below.size)
    refine ⟨hbel, by cases oi.dst <;> simp [Act.put, hI.defers], by cases oi.dst <;> simp [Act.put, hI.size], fun t ht => ?_, fun j t hj hbj => ?_⟩
    · cases hdst : oi.dst with
      | none => simpa [Act.put] using hI.elder t ht
      | some u =>
        have hne : u ≠ t := by
          rintro rfl
          exact ht (List.mem_of_getElem? (by rw [hDi, hdst]))
        simp [Act.put, Array.getElem?_setIfInBounds_ne hne]
        exact hI.elder t ht
    · by_cases hji : j = i
      · subst hji
        rw [hDi] at hj
        injection hj with hj
        refine ⟨v, ?_, hs⟩
        rw [hj]
        have : t < a.tmps.size := by
          rw [hI.size]
          have h1 := List.all_eq_true.1 hsz t (List.mem_filterMap.2 ⟨some t, List.mem_of_getElem? (by rw [hDi, hj]), rfl⟩)
          simpa using h1
        simp [Act.put, this]
      · rw [up_ne hji] at hbj
        obtain ⟨x, hx, hsx⟩ := hI.vals j t hj hbj
        refine ⟨x, ?_, hmono _ _ _ _ hbw hsx⟩
        cases hdst : oi.dst with
        | none => simpa [Act.put] using hx
        | some u =>
          have hne : u ≠ t := by
            rintro rfl
            exact hji (distinct hd hj (by rw [hDi, hdst]))
          simp [Act.put, Array.getElem?_setIfInBounds_ne hne]
          exact hx
  · intro b a w hb hI
    exact hend a w ⟨hI.below, hI.defers, hI.size, hI.elder, fun i t hi _ => hI.vals i t hi (hb i (by
      rw [List.contains_iff_mem, List.mem_range]
      have := (List.getElem?_eq_some_iff.1 hi).1
      rw [← hD] at this
      simpa using this))⟩
theorem rs_nil {P : Program} {ops : Array Oper} {Q : Exit → Act → World → Prop} {B : List Nat} {D : List (Option Tmp)} {S : Nat → World → Value → Prop} {a0 : Act} {w0 : World} : ∀ i ∈ ([] : List Nat), RStep P ops Q B D S a0 w0 i := fun _ h => by cases h
theorem rs_cons {P : Program} {ops : Array Oper} {Q : Exit → Act → World → Prop} {B : List Nat} {D : List (Option Tmp)} {S : Nat → World → Value → Prop} {a0 : Act} {w0 : World} {i : Nat} {rs : List Nat} (h : RStep P ops Q B D S a0 w0 i) (hs : ∀ j ∈ rs, RStep P ops Q B D S a0 w0 j) : ∀ j ∈ i :: rs, RStep P ops Q B D S a0 w0 j := fun j hj => by
  rcases List.mem_cons.1 hj with rfl | hj
  · exact h
  · exact hs j hj
/-- Is each of a list of specifications kept as the world grows? -/
def MonoS (s : World → Value → Prop) : Prop := ∀ w1 w2 v, Below w1.heap.size w1 w2 → s w1 v → s w2 v
theorem monoS_eq (x : Value) : MonoS (fun _ v => v = x) := fun _ _ _ _ h => h
theorem monoS_nil : ∀ s ∈ ([] : List (World → Value → Prop)), MonoS s := fun _ h => by cases h
theorem monoS_cons {s : World → Value → Prop} {l : List (World → Value → Prop)} (h : MonoS s) (hs : ∀ t ∈ l, MonoS t) : ∀ t ∈ s :: l, MonoS t := fun t ht => by
  rcases List.mem_cons.1 ht with rfl | ht
  · exact h
  · exact hs t ht
theorem mono_getD {l : List (World → Value → Prop)} (h : ∀ s ∈ l, MonoS s) : ∀ i w1 w2 v, Below w1.heap.size w1 w2 → l.getD i (fun _ _ => False) w1 v → l.getD i (fun _ _ => False) w2 v := by
  intro i w1 w2 v hb hs
  rw [List.getD_eq_getElem?_getD] at hs ⊢
  cases hi : l[i]? with
  | none => rw [hi] at hs; exact hs.elim
  | some s => rw [hi] at hs; exact h s (List.mem_of_getElem? hi) w1 w2 v hb hs
/-- A value is a slice that holds these. -/
def Rs {α : Type} (d : Kd α) (w : World) (v : Value) (xs : List α) : Prop := ∃ A c, v = .slice A xs.length c ∧ xs.length ≤ c ∧ d.C w A xs.length xs
theorem monoS_rs {α : Type} (d : Kd α) (xs : List α) : MonoS (fun w v => Rs d w v xs) := fun _ _ _ hb ⟨A, c, e, hl, hC⟩ => ⟨A, c, e, hl, Kd.C_below hC hb⟩
/-- The function's end, the frame not written out: one result, out of slot t. -/
theorem ret_slot {P : Program} {fn : Func} {R : Ending → World → Prop} {a : Act} {w : World} {t : Tmp} {v : Value} (hr : fn.results = #[.tmp t]) (hd : a.defers = []) (ht : a.tmps[t]? = some v) (h : R (.returned v) w) : bodyPost P fn R .ret a w := by
  refine bodyPost_ret (v := v) ?_ hd h
  have := results_tmp hr a.tmps P w
  rw [this]
  simp [ht]
end Go.Proofs.YtkkikddocgckbaaDoor.Reg
end

section
/- A region that draws the order of its first m operations and does the others, which wait for all before them, one after another: the others may store. No conditions. -/
namespace Go.Proofs.YtkkikddocgckbaaDoor.Reg
open Go Go.RowKit Go.Proofs.YtkkikddocgckbaaDoorW.PrintWords Go.Proofs.YtkkikddocgckbaaDoorW.PrintLast
/-- Operation i of the tail, all ahead of it done. -/
def TStep (P : Program) (ops : Array Oper) (Q : Exit → Act → World → Prop) (J : Nat → Act → World → Prop) (i : Nat) : Prop :=
  ∀ a w, J i a w → ∃ oi, ops[i]? = some oi ∧ ∀ K : Act → World → Prop, Shut (∀ a' w', J (i + 1) a' w' → K a' w') → if Region.wanted oi (yielded ops a.tmps) = true then Oper.wp P oi a w K Q else K (a.put oi.dst undef) w
end Go.Proofs.YtkkikddocgckbaaDoor.Reg
end
