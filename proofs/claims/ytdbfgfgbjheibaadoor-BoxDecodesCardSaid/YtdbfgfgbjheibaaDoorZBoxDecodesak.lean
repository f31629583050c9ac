/- What bytes say as a container, plainly: a code, and a program's lists. -/
import Derived.Test.YtdbfgfgbjheibaaDoorZBoxDecodesq
import Derived.Test.YtdbfgfgbjheibaaDoorZBoxDecodesaf
import Derived.Test.YtdbfgfgbjheibaaDoorZBoxDecodesaj
section
/- Printed by a program of this session (wip/pg.py, over the print of the kit): functions, their Lean twins, and the proofs that the calls come to them; each under the conditions that it names. -/
namespace Go.Proofs.YtdbfgfgbjheibaaDoor.PCod

open Go.RowKit Go.Proofs.YtdbfgfgbjheibaaDoorW.PrintWords Go.Proofs.YtdbfgfgbjheibaaDoorW.PrintLast Go.Proofs.YtdbfgfgbjheibaaDoorW.PrintMore
attribute [local go_sem] max2_int min2_int max_two min_two max_three min_three max_four min_four   -- for this text's walks alone
set_option linter.unusedVariables false
set_option linter.unusedSimpArgs false

/-! ### r13_Decode: function 114 -/
mutual
def r13_Decode.l0 : Nat → List Int → List (S109) → Int → Option ((List (S109)) × Int × Int)
 | 0, _, _, _ => none
 | k + 1, x0, x5, x6 => if x6 < (x0.length : Int) then (if (wrap64 ((x0.length : Int) - x6)) < 5 then (some (([] : List (S109)), wrap64 (Int.tdiv x6 5), 1)) else (if 0 ≤ x6 then (if 0 ≤ (wrap64 (x6 + 1)) then (if (wrap64 (x6 + 1)) < (x0.length : Int) then (if 0 ≤ (wrap64 (x6 + 2)) then (if (wrap64 (x6 + 2)) < (x0.length : Int) then (if 0 ≤ (wrap64 (x6 + 3)) then (if (wrap64 (x6 + 3)) < (x0.length : Int) then (if 0 ≤ (wrap64 (x6 + 4)) then (if (wrap64 (x6 + 4)) < (x0.length : Int) then (if (wrap64 (rd x0 x6)) ≥ 48 then (r13_Decode.j1 k x0 x5 x6 (decide ((wrap64 (rd x0 x6)) ≤ 55)) (wrap64 (rd x0 x6)) (wrap64 ((wrap64 (rd x0 (wrap64 (x6 + 1)))) + (wrap64 (256 * (wrap64 (rd x0 (wrap64 (x6 + 2)))))))) (wrap64 ((wrap64 (rd x0 (wrap64 (x6 + 3)))) + (wrap64 (256 * (wrap64 (rd x0 (wrap64 (x6 + 4))))))))) else (r13_Decode.j1 k x0 x5 x6 false (wrap64 (rd x0 x6)) (wrap64 ((wrap64 (rd x0 (wrap64 (x6 + 1)))) + (wrap64 (256 * (wrap64 (rd x0 (wrap64 (x6 + 2)))))))) (wrap64 ((wrap64 (rd x0 (wrap64 (x6 + 3)))) + (wrap64 (256 * (wrap64 (rd x0 (wrap64 (x6 + 4)))))))))) else (none)) else (none)) else (none)) else (none)) else (none)) else (none)) else (none)) else (none)) else (none))) else (some (x5, 0, 0))
def r13_Decode.j1 : Nat → List Int → List (S109) → Int → Bool → Int → Int → Int → Option ((List (S109)) × Int × Int)
 | 0, _, _, _, _, _, _, _ => none
 | k + 1, x0, x5, x6, x62, x116000, x116001, x116002 => if x62 = true then (some (([] : List (S109)), wrap64 (Int.tdiv x6 5), 6)) else ((r12_Right.f k x116000 x116001 x116002).bind fun t116 => (if t116 = true then (if x5.length < 5864062014805 then (r13_Decode.l0 k x0 (x5 ++ [(⟨x116000, x116001, x116002⟩ : S109)]) (wrap64 (x6 + 5))) else (none)) else (some (([] : List (S109)), wrap64 (Int.tdiv x6 5), 7))))
end
def r13_Decode.f (k : Nat) (l0 : List Int) : Option ((List (S109)) × Int × Int) := r13_Decode.l0 k l0 ([] : List (S109)) 0
def r13_Decode.T7 : Bool × List (List Nat × List Nat) := (true, [([], []), ([], []), ([0, 1], [0, 1]), ([2], [2]), ([3], [3]), ([], []), ([], []), ([6], [6]), ([5, 7], [5, 7]), ([8], [8]), ([9], [9]), ([], []), ([], []), ([12], [12]), ([11, 13], [11, 13]), ([14], [14]), ([15], [15]), ([16], [16]), ([10, 17], [10, 17]), ([], []), ([], []), ([20], [20]), ([19, 21], [19, 21]), ([22], [22]), ([23], [23]), ([], []), ([], []), ([26], [26]), ([25, 27], [25, 27]), ([28], [28]), ([29], [29]), ([30], [30]), ([24, 31], [24, 31]), ([4, 18, 32], [4, 18, 32]), ([], []), ([34, 33, 0, 1, 2, 3, 4, 5, 6, 7, 8, 9, 10, 11, 12, 13, 14, 15, 16, 17, 18, 19, 20, 21, 22, 23, 24, 25, 26, 27, 28, 29, 30, 31, 32, 33, 34], [33, 34])])
def r13_Decode.B7 : List Nat := [0, 0, 3, 7, 15, 0, 0, 64, 224, 480, 992, 0, 0, 4096, 14336, 30720, 63488, 129024, 262112, 0, 0, 1048576, 3670016, 7864320, 16252928, 0, 0, 67108864, 234881024, 503316480, 1040187392, 2113929216, 4294443008, 8589934591, 0, 34359738367]
theorem r13_Decode.tab7 : rtab .any (opsOf Tryd.f114 7) = r13_Decode.T7 := by kernel_rfl
theorem r13_Decode.bits7 : waitsOk r13_Decode.T7.2 r13_Decode.B7 = true := by kernel_rfl
set_option maxHeartbeats 8000000 in
set_option maxRecDepth 100000 in
theorem r13_Decode.calls (k : Nat) (A0 : Option Addr) (c0 : Nat) (l0 : List Int) (r1 : List (S109)) (r2 : Int) (r3 : Int) (w : World) (hr0 : Kd.C (Kd.int .u8) w A0 l0.length l0) (hc0 : l0.length ≤ c0) (h : r13_Decode.f k l0 = some (r1, r2, r3)) :
  Calls Tryd.prog 114 #[.slice A0 l0.length c0] w fun e w' => ∃ v0_ : Value, e = .returned (.tuple #[v0_, .int .i64 r2, .int .i64 r3]) ∧ Kd.R k109 109 w' w.heap.size (fun _ => True) v0_ r1 ∧ Below w.heap.size w w' := by
 have hu109 := Tryd.underlying109
 have HR0 := zA hr0
 have HC0 := zA hc0
 clear hr0 hc0
 have HB := zA (zX w.heap.size w)
 have H : (r13_Decode.l0 k l0 ([] : List (S109)) 0) = some (r1, r2, r3) := h
 clear h
 have H' := zA H
 clear H
 go_enter Tryd.func114, Tryd.ntmps114
 go_wp2
 go_loopg [5, 6] k (fun kq v5 v6 w' => ∃ (x5_1 : List (S109)) (x6_1 : Int), v6 = .int .i64 x6_1 ∧ Aside0 (r13_Decode.l0 kq l0 x5_1 x6_1 = some (r1, r2, r3)) ∧ Aside0 (kq ≤ k) ∧ Aside0 (Kd.R k109 109 w' w.heap.size (fun _ => True) v5 x5_1) ∧ Aside0 (Below w.heap.size w w'))
 case atStart => exact ⟨(([] : List (S109))), (0), (by first | rfl | (simp; done) | (simp [*]; done)), H', ⟨z5 _⟩, ⟨by first | exact Kd.R_nil _ _ _ _ _ | exact Kd.N_nil _ _ _ _ _ | exact Kd.V_nil _ _ _ _ _ | exact Kd.Q_nil _ _ _ _ _ | exact Kd.S_nil _ _ _ _ _⟩, ⟨by repeat (first | (with_reducible first | exact HB.out | apply zB | apply zN | apply below_drew1) | exact HB.out)⟩⟩
 case round =>
  clear H'
  try clear c1
  obtain ⟨x5_1, x6_1, rfl, HA, HK1, HO_5, HB⟩ := hrel
  cases gk with
  | zero => exact absurd HA.out (by simp [r13_Decode.l0])
  | succ k1 =>
   have H := HA.out
   clear HA
   simp only [r13_Decode.l0] at H
   by_cases c2 : x6_1 < (l0.length : Int)
   ·rw [if_pos c2] at H
    have c2b0 : decide (x6_1 < (l0.length : Int)) = true := decide_eq_true c2
    clear c2
    by_cases c3 : (wrap64 ((l0.length : Int) - x6_1)) < 5
    ·rw [if_pos c3] at H
     have c3b0 : decide ((wrap64 ((l0.length : Int) - x6_1)) < 5) = true := decide_eq_true c3
     clear c3
     simp only [Option.some.injEq, Prod.mk.injEq] at H
     obtain ⟨rfl, rfl, rfl⟩ := H
     go_wp2
     go_ret3
     exact ⟨_, by first | rfl | (simp [errW_none, errW_some] <;> rfl) | (simp [*, errW_none, errW_some] <;> rfl), by first | exact Kd.R_nil _ _ _ _ _ | exact Kd.N_nil _ _ _ _ _ | exact Kd.V_nil _ _ _ _ _ | exact Kd.Q_nil _ _ _ _ _ | exact Kd.S_nil _ _ _ _ _, by repeat (first | (with_reducible first | exact HB.out | apply zB | apply zN | apply below_drew1) | exact HB.out)⟩
    ·rw [if_neg c3] at H
     have c3b0 : decide ((wrap64 ((l0.length : Int) - x6_1)) < 5) = false := decide_eq_false c3
     clear c3
     by_cases c4 : 0 ≤ x6_1
     ·rw [if_pos c4] at H
      have c4b0 : decide (0 ≤ x6_1) = true := decide_eq_true c4
      clear c4
      obtain ⟨ji5, hji5⟩ : ∃ j_ : Int, (wrap64 (x6_1 + 1)) = j_ := ⟨_, rfl⟩
      replace H : (if 0 ≤ (ji5) then (if (ji5) < (l0.length : Int) then (if 0 ≤ (wrap64 (x6_1 + 2)) then (if (wrap64 (x6_1 + 2)) < (l0.length : Int) then (if 0 ≤ (wrap64 (x6_1 + 3)) then (if (wrap64 (x6_1 + 3)) < (l0.length : Int) then (if 0 ≤ (wrap64 (x6_1 + 4)) then (if (wrap64 (x6_1 + 4)) < (l0.length : Int) then (if (wrap64 (rd l0 x6_1)) ≥ 48 then (r13_Decode.j1 k1 l0 x5_1 x6_1 (decide ((wrap64 (rd l0 x6_1)) ≤ 55)) (wrap64 (rd l0 x6_1)) (wrap64 ((wrap64 (rd l0 (ji5))) + (wrap64 (256 * (wrap64 (rd l0 (wrap64 (x6_1 + 2)))))))) (wrap64 ((wrap64 (rd l0 (wrap64 (x6_1 + 3)))) + (wrap64 (256 * (wrap64 (rd l0 (wrap64 (x6_1 + 4))))))))) else (r13_Decode.j1 k1 l0 x5_1 x6_1 false (wrap64 (rd l0 x6_1)) (wrap64 ((wrap64 (rd l0 (ji5))) + (wrap64 (256 * (wrap64 (rd l0 (wrap64 (x6_1 + 2)))))))) (wrap64 ((wrap64 (rd l0 (wrap64 (x6_1 + 3)))) + (wrap64 (256 * (wrap64 (rd l0 (wrap64 (x6_1 + 4)))))))))) else (none)) else (none)) else (none)) else (none)) else (none)) else (none)) else (none)) else (none)) = some (r1, r2, r3) := by first | (rw [hji5] at H; exact H) | (simp only [hji5] at H ⊢; exact H)
      have hji5w : (IntKind.i64.wrap (x6_1 + 1)) = ji5 := (i64_w _).trans hji5
      by_cases c6 : 0 ≤ (ji5)
      ·rw [if_pos c6] at H
       have c6b0 : decide (0 ≤ (ji5)) = true := decide_eq_true c6
       clear c6
       by_cases c7 : (ji5) < (l0.length : Int)
       ·rw [if_pos c7] at H
        have c7b0 : decide ((ji5) < (l0.length : Int)) = true := decide_eq_true c7
        clear c7
        obtain ⟨ji8, hji8⟩ : ∃ j_ : Int, (wrap64 (x6_1 + 2)) = j_ := ⟨_, rfl⟩
        replace H : (if 0 ≤ (ji8) then (if (ji8) < (l0.length : Int) then (if 0 ≤ (wrap64 (x6_1 + 3)) then (if (wrap64 (x6_1 + 3)) < (l0.length : Int) then (if 0 ≤ (wrap64 (x6_1 + 4)) then (if (wrap64 (x6_1 + 4)) < (l0.length : Int) then (if (wrap64 (rd l0 x6_1)) ≥ 48 then (r13_Decode.j1 k1 l0 x5_1 x6_1 (decide ((wrap64 (rd l0 x6_1)) ≤ 55)) (wrap64 (rd l0 x6_1)) (wrap64 ((wrap64 (rd l0 (ji5))) + (wrap64 (256 * (wrap64 (rd l0 (ji8))))))) (wrap64 ((wrap64 (rd l0 (wrap64 (x6_1 + 3)))) + (wrap64 (256 * (wrap64 (rd l0 (wrap64 (x6_1 + 4))))))))) else (r13_Decode.j1 k1 l0 x5_1 x6_1 false (wrap64 (rd l0 x6_1)) (wrap64 ((wrap64 (rd l0 (ji5))) + (wrap64 (256 * (wrap64 (rd l0 (ji8))))))) (wrap64 ((wrap64 (rd l0 (wrap64 (x6_1 + 3)))) + (wrap64 (256 * (wrap64 (rd l0 (wrap64 (x6_1 + 4)))))))))) else (none)) else (none)) else (none)) else (none)) else (none)) else (none)) = some (r1, r2, r3) := by first | (rw [hji8] at H; exact H) | (simp only [hji8] at H ⊢; exact H)
        have hji8w : (IntKind.i64.wrap (x6_1 + 2)) = ji8 := (i64_w _).trans hji8
        by_cases c9 : 0 ≤ (ji8)
        ·rw [if_pos c9] at H
         have c9b0 : decide (0 ≤ (ji8)) = true := decide_eq_true c9
         clear c9
         by_cases c10 : (ji8) < (l0.length : Int)
         ·rw [if_pos c10] at H
          have c10b0 : decide ((ji8) < (l0.length : Int)) = true := decide_eq_true c10
          clear c10
          obtain ⟨ji11, hji11⟩ : ∃ j_ : Int, (wrap64 (x6_1 + 3)) = j_ := ⟨_, rfl⟩
          replace H : (if 0 ≤ (ji11) then (if (ji11) < (l0.length : Int) then (if 0 ≤ (wrap64 (x6_1 + 4)) then (if (wrap64 (x6_1 + 4)) < (l0.length : Int) then (if (wrap64 (rd l0 x6_1)) ≥ 48 then (r13_Decode.j1 k1 l0 x5_1 x6_1 (decide ((wrap64 (rd l0 x6_1)) ≤ 55)) (wrap64 (rd l0 x6_1)) (wrap64 ((wrap64 (rd l0 (ji5))) + (wrap64 (256 * (wrap64 (rd l0 (ji8))))))) (wrap64 ((wrap64 (rd l0 (ji11))) + (wrap64 (256 * (wrap64 (rd l0 (wrap64 (x6_1 + 4))))))))) else (r13_Decode.j1 k1 l0 x5_1 x6_1 false (wrap64 (rd l0 x6_1)) (wrap64 ((wrap64 (rd l0 (ji5))) + (wrap64 (256 * (wrap64 (rd l0 (ji8))))))) (wrap64 ((wrap64 (rd l0 (ji11))) + (wrap64 (256 * (wrap64 (rd l0 (wrap64 (x6_1 + 4)))))))))) else (none)) else (none)) else (none)) else (none)) = some (r1, r2, r3) := by first | (rw [hji11] at H; exact H) | (simp only [hji11] at H ⊢; exact H)
          have hji11w : (IntKind.i64.wrap (x6_1 + 3)) = ji11 := (i64_w _).trans hji11
          by_cases c12 : 0 ≤ (ji11)
          ·rw [if_pos c12] at H
           have c12b0 : decide (0 ≤ (ji11)) = true := decide_eq_true c12
           clear c12
           by_cases c13 : (ji11) < (l0.length : Int)
           ·rw [if_pos c13] at H
            have c13b0 : decide ((ji11) < (l0.length : Int)) = true := decide_eq_true c13
            clear c13
            obtain ⟨ji14, hji14⟩ : ∃ j_ : Int, (wrap64 (x6_1 + 4)) = j_ := ⟨_, rfl⟩
            replace H : (if 0 ≤ (ji14) then (if (ji14) < (l0.length : Int) then (if (wrap64 (rd l0 x6_1)) ≥ 48 then (r13_Decode.j1 k1 l0 x5_1 x6_1 (decide ((wrap64 (rd l0 x6_1)) ≤ 55)) (wrap64 (rd l0 x6_1)) (wrap64 ((wrap64 (rd l0 (ji5))) + (wrap64 (256 * (wrap64 (rd l0 (ji8))))))) (wrap64 ((wrap64 (rd l0 (ji11))) + (wrap64 (256 * (wrap64 (rd l0 (ji14)))))))) else (r13_Decode.j1 k1 l0 x5_1 x6_1 false (wrap64 (rd l0 x6_1)) (wrap64 ((wrap64 (rd l0 (ji5))) + (wrap64 (256 * (wrap64 (rd l0 (ji8))))))) (wrap64 ((wrap64 (rd l0 (ji11))) + (wrap64 (256 * (wrap64 (rd l0 (ji14))))))))) else (none)) else (none)) = some (r1, r2, r3) := by first | (rw [hji14] at H; exact H) | (simp only [hji14] at H ⊢; exact H)
            have hji14w : (IntKind.i64.wrap (x6_1 + 4)) = ji14 := (i64_w _).trans hji14
            by_cases c15 : 0 ≤ (ji14)
            ·rw [if_pos c15] at H
             have c15b0 : decide (0 ≤ (ji14)) = true := decide_eq_true c15
             clear c15
             by_cases c16 : (ji14) < (l0.length : Int)
             ·rw [if_pos c16] at H
              have c16b0 : decide ((ji14) < (l0.length : Int)) = true := decide_eq_true c16
              clear c16
              have HC17 := zA H
              clear H
              try go_wp2
              replace HO_5 := zA (zT HO_5.out)
              replace HB := zA (below_drew1 HB.out)
              have p110 : 0 ≤ (x6_1 : Int) := zO (by first | (with_reducible assumption) | assumption)
              have q110 : x6_1 < (l0.length : Int) := zO (by first | (with_reducible assumption) | assumption)
              obtain ⟨ad110, e110, hx110_0⟩ := Kd.at_int HR0.out x6_1 p110 q110
              have hw110_0 := hx110_0
              cases e110
              replace hx110_0 := (HB.out.cell (zL w _ hx110_0)).trans hx110_0
              replace p110 := eq_true p110
              replace q110 := eq_true q110
              have p111 : 0 ≤ ((ji5) : Int) := zO (by first | (with_reducible assumption) | assumption)
              have q111 : (ji5) < (l0.length : Int) := zO (by first | (with_reducible assumption) | assumption)
              obtain ⟨ad111, e111, hx111_0⟩ := Kd.at_int HR0.out (ji5) p111 q111
              have hw111_0 := hx111_0
              obtain rfl : ad110 = ad111 := (by injection e111)
              replace hx111_0 := (HB.out.cell (zL w _ hx111_0)).trans hx111_0
              replace p111 := eq_true p111
              replace q111 := eq_true q111
              have p112 : 0 ≤ ((ji8) : Int) := zO (by first | (with_reducible assumption) | assumption)
              have q112 : (ji8) < (l0.length : Int) := zO (by first | (with_reducible assumption) | assumption)
              obtain ⟨ad112, e112, hx112_0⟩ := Kd.at_int HR0.out (ji8) p112 q112
              have hw112_0 := hx112_0
              obtain rfl : ad110 = ad112 := (by injection e112)
              replace hx112_0 := (HB.out.cell (zL w _ hx112_0)).trans hx112_0
              replace p112 := eq_true p112
              replace q112 := eq_true q112
              have p113 : 0 ≤ ((ji11) : Int) := zO (by first | (with_reducible assumption) | assumption)
              have q113 : (ji11) < (l0.length : Int) := zO (by first | (with_reducible assumption) | assumption)
              obtain ⟨ad113, e113, hx113_0⟩ := Kd.at_int HR0.out (ji11) p113 q113
              have hw113_0 := hx113_0
              obtain rfl : ad110 = ad113 := (by injection e113)
              replace hx113_0 := (HB.out.cell (zL w _ hx113_0)).trans hx113_0
              replace p113 := eq_true p113
              replace q113 := eq_true q113
              have p114 : 0 ≤ ((ji14) : Int) := zO (by first | (with_reducible assumption) | assumption)
              have q114 : (ji14) < (l0.length : Int) := zO (by first | (with_reducible assumption) | assumption)
              obtain ⟨ad114, e114, hx114_0⟩ := Kd.at_int HR0.out (ji14) p114 q114
              have hw114_0 := hx114_0
              obtain rfl : ad110 = ad114 := (by injection e114)
              replace hx114_0 := (HB.out.cell (zL w _ hx114_0)).trans hx114_0
              replace p114 := eq_true p114
              replace q114 := eq_true q114
              refine start_ (n := 36) (S := fun w' => w'.cell? (ad110.add (x6_1).toNat) = some (.int .u8 (rd l0 x6_1)) ∧ w'.cell? (ad110.add ((ji5)).toNat) = some (.int .u8 (rd l0 (ji5))) ∧ w'.cell? (ad110.add ((ji8)).toNat) = some (.int .u8 (rd l0 (ji8))) ∧ w'.cell? (ad110.add ((ji11)).toNat) = some (.int .u8 (rd l0 (ji11))) ∧ w'.cell? (ad110.add ((ji14)).toNat) = some (.int .u8 (rd l0 (ji14)))) (ds := []) #[false, false, false, false, false, false, false, false, false, false, false, false, false, false, false, false, false, false, false, false, false, false, false, false, false, false, false, false, false, false, false, false, false, false, false, false] (by kernel_rfl) rfl rfl ⟨((HB.out.cell (zL w _ hw110_0)).trans hw110_0), ((HB.out.cell (zL w _ hw111_0)).trans hw111_0), ((HB.out.cell (zL w _ hw112_0)).trans hw112_0), ((HB.out.cell (zL w _ hw113_0)).trans hw113_0), ((HB.out.cell (zL w _ hw114_0)).trans hw114_0)⟩ (fun hHeld => ?_); refine with_tabW r13_Decode.tab7 r13_Decode.bits7 (fun HT_ HW_ => ?_)
              generalize wr.drew = w18 at HO_5 HB hx110_0 hx111_0 hx112_0 hx113_0 hx114_0 hHeld ⊢
              refine pure_ (i := 0) (N := some 21) (v := ?_) (a' := ?_) #[true, false, false, false, false, false, false, false, false, false, false, false, false, false, false, false, false, false, false, false, false, false, false, false, false, false, false, false, false, false, false, false, false, false, false, false] rfl rfl (any_of HT_.out (by kernel_rfl)) (fun _ _ _ h => h) (Or.inl ⟨by rfl, ?_⟩) ?_ ?_
              rotate_left
              ·intro w'
               go_simp
               with_reducible rfl
              rotate_left
              ·simp only [Act.put, zY, List.set_cons_zero, z2, i64_w, i32_w]
               rfl
              refine pure_ (i := 1) (N := some 22) (v := ?_) (a' := ?_) #[true, true, false, false, false, false, false, false, false, false, false, false, false, false, false, false, false, false, false, false, false, false, false, false, false, false, false, false, false, false, false, false, false, false, false, false] rfl rfl (any_of HT_.out (by kernel_rfl)) (fun _ _ _ h => h) (Or.inl ⟨by rfl, ?_⟩) ?_ ?_
              rotate_left
              ·intro w'
               go_simp
               with_reducible rfl
              rotate_left
              ·simp only [Act.put, zY, List.set_cons_zero, z2, i64_w, i32_w]
               rfl
              refine pure_ (i := 2) (N := some 23) (v := ?_) (a' := ?_) #[true, true, true, false, false, false, false, false, false, false, false, false, false, false, false, false, false, false, false, false, false, false, false, false, false, false, false, false, false, false, false, false, false, false, false, false] rfl rfl (any_of HT_.out (by kernel_rfl)) (fun _ _ _ h => h) (Or.inl ⟨by rfl, ?_⟩) ?_ ?_
              rotate_left
              ·intro w'
               go_simp
               with_reducible rfl
              rotate_left
              ·simp only [Act.put, zY, List.set_cons_zero, z2, i64_w, i32_w]
               rfl
              refine pure_ (i := 5) (N := some 26) (v := ?_) (a' := ?_) #[true, true, true, false, false, true, false, false, false, false, false, false, false, false, false, false, false, false, false, false, false, false, false, false, false, false, false, false, false, false, false, false, false, false, false, false] rfl rfl (any_of HT_.out (by kernel_rfl)) (fun _ _ _ h => h) (Or.inl ⟨by rfl, ?_⟩) ?_ ?_
              rotate_left
              ·intro w'
               go_simp
               with_reducible rfl
              rotate_left
              ·simp only [Act.put, zY, List.set_cons_zero, z2, i64_w, i32_w]
               rfl
              refine pure_ (i := 6) (N := some 27) (v := ?_) (a' := ?_) #[true, true, true, false, false, true, true, false, false, false, false, false, false, false, false, false, false, false, false, false, false, false, false, false, false, false, false, false, false, false, false, false, false, false, false, false] rfl rfl (any_of HT_.out (by kernel_rfl)) (fun _ _ _ h => h) (Or.inl ⟨by rfl, ?_⟩) ?_ ?_
              rotate_left
              ·intro w'
               go_simp
               with_reducible rfl
              rotate_left
              ·simp only [Act.put, zY, List.set_cons_zero, z2, i64_w, i32_w]
               rfl
              refine pure_ (i := 7) (N := some 28) (v := ?_) (a' := ?_) #[true, true, true, false, false, true, true, true, false, false, false, false, false, false, false, false, false, false, false, false, false, false, false, false, false, false, false, false, false, false, false, false, false, false, false, false] rfl rfl (any_of HT_.out (by kernel_rfl)) (fun _ _ _ h => h) (Or.inl ⟨by rfl, ?_⟩) ?_ ?_
              rotate_left
              ·intro w'
               go_simp
               with_reducible rfl
              rotate_left
              ·simp only [Act.put, zY, List.set_cons_zero, z2, i64_w, i32_w]
               rfl
              refine pure_ (i := 8) (N := some 29) (v := ?_) (a' := ?_) #[true, true, true, false, false, true, true, true, true, false, false, false, false, false, false, false, false, false, false, false, false, false, false, false, false, false, false, false, false, false, false, false, false, false, false, false] rfl rfl (any_of HT_.out (by kernel_rfl)) (fun _ _ _ h => h) (Or.inl ⟨by rfl, ?_⟩) ?_ ?_
              rotate_left
              ·intro w'
               go_simp
               with_reducible rfl
              rotate_left
              ·simp only [Act.put, zY, List.set_cons_zero, z2, i64_w, i32_w]
               rfl
              refine pure_ (i := 11) (N := some 32) (v := ?_) (a' := ?_) #[true, true, true, false, false, true, true, true, true, false, false, true, false, false, false, false, false, false, false, false, false, false, false, false, false, false, false, false, false, false, false, false, false, false, false, false] rfl rfl (any_of HT_.out (by kernel_rfl)) (fun _ _ _ h => h) (Or.inl ⟨by rfl, ?_⟩) ?_ ?_
              rotate_left
              ·intro w'
               go_simp
               with_reducible rfl
              rotate_left
              ·simp only [Act.put, zY, List.set_cons_zero, z2, i64_w, i32_w]
               rfl
              refine pure_ (i := 12) (N := some 33) (v := ?_) (a' := ?_) #[true, true, true, false, false, true, true, true, true, false, false, true, true, false, false, false, false, false, false, false, false, false, false, false, false, false, false, false, false, false, false, false, false, false, false, false] rfl rfl (any_of HT_.out (by kernel_rfl)) (fun _ _ _ h => h) (Or.inl ⟨by rfl, ?_⟩) ?_ ?_
              rotate_left
              ·intro w'
               go_simp
               with_reducible rfl
              rotate_left
              ·simp only [Act.put, zY, List.set_cons_zero, z2, i64_w, i32_w]
               rfl
              refine pure_ (i := 13) (N := some 34) (v := ?_) (a' := ?_) #[true, true, true, false, false, true, true, true, true, false, false, true, true, true, false, false, false, false, false, false, false, false, false, false, false, false, false, false, false, false, false, false, false, false, false, false] rfl rfl (any_of HT_.out (by kernel_rfl)) (fun _ _ _ h => h) (Or.inl ⟨by rfl, ?_⟩) ?_ ?_
              rotate_left
              ·intro w'
               go_simp
               with_reducible rfl
              rotate_left
              ·simp only [Act.put, zY, List.set_cons_zero, z2, i64_w, i32_w]
               rfl
              refine pure_ (i := 14) (N := some 35) (v := ?_) (a' := ?_) #[true, true, true, false, false, true, true, true, true, false, false, true, true, true, true, false, false, false, false, false, false, false, false, false, false, false, false, false, false, false, false, false, false, false, false, false] rfl rfl (any_of HT_.out (by kernel_rfl)) (fun _ _ _ h => h) (Or.inl ⟨by rfl, ?_⟩) ?_ ?_
              rotate_left
              ·intro w'
               go_simp
               with_reducible rfl
              rotate_left
              ·simp only [Act.put, zY, List.set_cons_zero, z2, i64_w, i32_w]
               rfl
              refine pure_ (i := 19) (N := some 40) (v := ?_) (a' := ?_) #[true, true, true, false, false, true, true, true, true, false, false, true, true, true, true, false, false, false, false, true, false, false, false, false, false, false, false, false, false, false, false, false, false, false, false, false] rfl rfl (any_of HT_.out (by kernel_rfl)) (fun _ _ _ h => h) (Or.inl ⟨by rfl, ?_⟩) ?_ ?_
              rotate_left
              ·intro w'
               go_simp
               with_reducible rfl
              rotate_left
              ·simp only [Act.put, zY, List.set_cons_zero, z2, i64_w, i32_w]
               rfl
              refine pure_ (i := 20) (N := some 41) (v := ?_) (a' := ?_) #[true, true, true, false, false, true, true, true, true, false, false, true, true, true, true, false, false, false, false, true, true, false, false, false, false, false, false, false, false, false, false, false, false, false, false, false] rfl rfl (any_of HT_.out (by kernel_rfl)) (fun _ _ _ h => h) (Or.inl ⟨by rfl, ?_⟩) ?_ ?_
              rotate_left
              ·intro w'
               go_simp
               with_reducible rfl
              rotate_left
              ·simp only [Act.put, zY, List.set_cons_zero, z2, i64_w, i32_w]
               rfl
              refine pure_ (i := 21) (N := some 42) (v := ?_) (a' := ?_) #[true, true, true, false, false, true, true, true, true, false, false, true, true, true, true, false, false, false, false, true, true, true, false, false, false, false, false, false, false, false, false, false, false, false, false, false] rfl rfl (any_of HT_.out (by kernel_rfl)) (fun _ _ _ h => h) (Or.inl ⟨by rfl, ?_⟩) ?_ ?_
              rotate_left
              ·intro w'
               go_simp
               with_reducible rfl
              rotate_left
              ·simp only [Act.put, zY, List.set_cons_zero, z2, i64_w, i32_w]
               rfl
              refine pure_ (i := 22) (N := some 43) (v := ?_) (a' := ?_) #[true, true, true, false, false, true, true, true, true, false, false, true, true, true, true, false, false, false, false, true, true, true, true, false, false, false, false, false, false, false, false, false, false, false, false, false] rfl rfl (any_of HT_.out (by kernel_rfl)) (fun _ _ _ h => h) (Or.inl ⟨by rfl, ?_⟩) ?_ ?_
              rotate_left
              ·intro w'
               go_simp
               with_reducible rfl
              rotate_left
              ·simp only [Act.put, zY, List.set_cons_zero, z2, i64_w, i32_w]
               rfl
              refine pure_ (i := 25) (N := some 46) (v := ?_) (a' := ?_) #[true, true, true, false, false, true, true, true, true, false, false, true, true, true, true, false, false, false, false, true, true, true, true, false, false, true, false, false, false, false, false, false, false, false, false, false] rfl rfl (any_of HT_.out (by kernel_rfl)) (fun _ _ _ h => h) (Or.inl ⟨by rfl, ?_⟩) ?_ ?_
              rotate_left
              ·intro w'
               go_simp
               with_reducible rfl
              rotate_left
              ·simp only [Act.put, zY, List.set_cons_zero, z2, i64_w, i32_w]
               rfl
              refine pure_ (i := 26) (N := some 47) (v := ?_) (a' := ?_) #[true, true, true, false, false, true, true, true, true, false, false, true, true, true, true, false, false, false, false, true, true, true, true, false, false, true, true, false, false, false, false, false, false, false, false, false] rfl rfl (any_of HT_.out (by kernel_rfl)) (fun _ _ _ h => h) (Or.inl ⟨by rfl, ?_⟩) ?_ ?_
              rotate_left
              ·intro w'
               go_simp
               with_reducible rfl
              rotate_left
              ·simp only [Act.put, zY, List.set_cons_zero, z2, i64_w, i32_w]
               rfl
              refine pure_ (i := 27) (N := some 48) (v := ?_) (a' := ?_) #[true, true, true, false, false, true, true, true, true, false, false, true, true, true, true, false, false, false, false, true, true, true, true, false, false, true, true, true, false, false, false, false, false, false, false, false] rfl rfl (any_of HT_.out (by kernel_rfl)) (fun _ _ _ h => h) (Or.inl ⟨by rfl, ?_⟩) ?_ ?_
              rotate_left
              ·intro w'
               go_simp
               with_reducible rfl
              rotate_left
              ·simp only [Act.put, zY, List.set_cons_zero, z2, i64_w, i32_w]
               rfl
              refine pure_ (i := 28) (N := some 49) (v := ?_) (a' := ?_) #[true, true, true, false, false, true, true, true, true, false, false, true, true, true, true, false, false, false, false, true, true, true, true, false, false, true, true, true, true, false, false, false, false, false, false, false] rfl rfl (any_of HT_.out (by kernel_rfl)) (fun _ _ _ h => h) (Or.inl ⟨by rfl, ?_⟩) ?_ ?_
              rotate_left
              ·intro w'
               go_simp
               with_reducible rfl
              rotate_left
              ·simp only [Act.put, zY, List.set_cons_zero, z2, i64_w, i32_w]
               rfl
              refine take_ (i := 3) (N := some 24) (v := ?_) (a' := ?_) #[true, true, true, true, false, true, true, true, true, false, false, true, true, true, true, false, false, false, false, true, true, true, true, false, false, true, true, true, true, false, false, false, false, false, false, false] rfl rfl (take_ofW HT_.out HW_.out (by kernel_rfl)) (fun _ _ _ h => h) (Or.inl ⟨by rfl, ?_⟩) hHeld ?_ ?_
              rotate_left
              ·rintro w' ⟨s0, s1, s2, s3, s4⟩
               go_simp
               with_reducible rfl
              rotate_left
              ·simp only [Act.put, zY, List.set_cons_zero, z2, i64_w, i32_w]
               rfl
              refine pure_ (i := 4) (N := some 25) (v := ?_) (a' := ?_) #[true, true, true, true, true, true, true, true, true, false, false, true, true, true, true, false, false, false, false, true, true, true, true, false, false, true, true, true, true, false, false, false, false, false, false, false] rfl rfl (any_of HT_.out (by kernel_rfl)) (fun _ _ _ h => h) (Or.inl ⟨by rfl, ?_⟩) ?_ ?_
              rotate_left
              ·intro w'
               go_simp
               with_reducible rfl
              rotate_left
              ·simp only [Act.put, zY, List.set_cons_zero, z2, i64_w, i32_w]
               rfl
              refine take_ (i := 9) (N := some 30) (v := ?_) (a' := ?_) #[true, true, true, true, true, true, true, true, true, true, false, true, true, true, true, false, false, false, false, true, true, true, true, false, false, true, true, true, true, false, false, false, false, false, false, false] rfl rfl (take_ofW HT_.out HW_.out (by kernel_rfl)) (fun _ _ _ h => h) (Or.inl ⟨by rfl, ?_⟩) hHeld ?_ ?_
              rotate_left
              ·rintro w' ⟨s0, s1, s2, s3, s4⟩
               go_simp
               with_reducible rfl
              rotate_left
              ·simp only [Act.put, zY, List.set_cons_zero, z2, i64_w, i32_w]
               rfl
              refine pure_ (i := 10) (N := some 31) (v := ?_) (a' := ?_) #[true, true, true, true, true, true, true, true, true, true, true, true, true, true, true, false, false, false, false, true, true, true, true, false, false, true, true, true, true, false, false, false, false, false, false, false] rfl rfl (any_of HT_.out (by kernel_rfl)) (fun _ _ _ h => h) (Or.inl ⟨by rfl, ?_⟩) ?_ ?_
              rotate_left
              ·intro w'
               go_simp
               with_reducible rfl
              rotate_left
              ·simp only [Act.put, zY, List.set_cons_zero, z2, i64_w, i32_w]
               rfl
              refine take_ (i := 15) (N := some 36) (v := ?_) (a' := ?_) #[true, true, true, true, true, true, true, true, true, true, true, true, true, true, true, true, false, false, false, true, true, true, true, false, false, true, true, true, true, false, false, false, false, false, false, false] rfl rfl (take_ofW HT_.out HW_.out (by kernel_rfl)) (fun _ _ _ h => h) (Or.inl ⟨by rfl, ?_⟩) hHeld ?_ ?_
              rotate_left
              ·rintro w' ⟨s0, s1, s2, s3, s4⟩
               go_simp
               with_reducible rfl
              rotate_left
              ·simp only [Act.put, zY, List.set_cons_zero, z2, i64_w, i32_w]
               rfl
              refine pure_ (i := 16) (N := some 37) (v := ?_) (a' := ?_) #[true, true, true, true, true, true, true, true, true, true, true, true, true, true, true, true, true, false, false, true, true, true, true, false, false, true, true, true, true, false, false, false, false, false, false, false] rfl rfl (any_of HT_.out (by kernel_rfl)) (fun _ _ _ h => h) (Or.inl ⟨by rfl, ?_⟩) ?_ ?_
              rotate_left
              ·intro w'
               go_simp
               with_reducible rfl
              rotate_left
              ·simp only [Act.put, zY, List.set_cons_zero, z2, i64_w, i32_w]
               rfl
              refine pure_ (i := 17) (N := some 38) (v := ?_) (a' := ?_) #[true, true, true, true, true, true, true, true, true, true, true, true, true, true, true, true, true, true, false, true, true, true, true, false, false, true, true, true, true, false, false, false, false, false, false, false] rfl rfl (any_of HT_.out (by kernel_rfl)) (fun _ _ _ h => h) (Or.inl ⟨by rfl, ?_⟩) ?_ ?_
              rotate_left
              ·intro w'
               go_simp
               with_reducible rfl
              rotate_left
              ·simp only [Act.put, zY, List.set_cons_zero, z2, i64_w, i32_w]
               rfl
              refine pure_ (i := 18) (N := some 39) (v := ?_) (a' := ?_) #[true, true, true, true, true, true, true, true, true, true, true, true, true, true, true, true, true, true, true, true, true, true, true, false, false, true, true, true, true, false, false, false, false, false, false, false] rfl rfl (any_of HT_.out (by kernel_rfl)) (fun _ _ _ h => h) (Or.inl ⟨by rfl, ?_⟩) ?_ ?_
              rotate_left
              ·intro w'
               go_simp
               with_reducible rfl
              rotate_left
              ·simp only [Act.put, zY, List.set_cons_zero, z2, i64_w, i32_w]
               rfl
              refine take_ (i := 23) (N := some 44) (v := ?_) (a' := ?_) #[true, true, true, true, true, true, true, true, true, true, true, true, true, true, true, true, true, true, true, true, true, true, true, true, false, true, true, true, true, false, false, false, false, false, false, false] rfl rfl (take_ofW HT_.out HW_.out (by kernel_rfl)) (fun _ _ _ h => h) (Or.inl ⟨by rfl, ?_⟩) hHeld ?_ ?_
              rotate_left
              ·rintro w' ⟨s0, s1, s2, s3, s4⟩
               go_simp
               with_reducible rfl
              rotate_left
              ·simp only [Act.put, zY, List.set_cons_zero, z2, i64_w, i32_w]
               rfl
              refine pure_ (i := 24) (N := some 45) (v := ?_) (a' := ?_) #[true, true, true, true, true, true, true, true, true, true, true, true, true, true, true, true, true, true, true, true, true, true, true, true, true, true, true, true, true, false, false, false, false, false, false, false] rfl rfl (any_of HT_.out (by kernel_rfl)) (fun _ _ _ h => h) (Or.inl ⟨by rfl, ?_⟩) ?_ ?_
              rotate_left
              ·intro w'
               go_simp
               with_reducible rfl
              rotate_left
              ·simp only [Act.put, zY, List.set_cons_zero, z2, i64_w, i32_w]
               rfl
              refine take_ (i := 29) (N := some 50) (v := ?_) (a' := ?_) #[true, true, true, true, true, true, true, true, true, true, true, true, true, true, true, true, true, true, true, true, true, true, true, true, true, true, true, true, true, true, false, false, false, false, false, false] rfl rfl (take_ofW HT_.out HW_.out (by kernel_rfl)) (fun _ _ _ h => h) (Or.inl ⟨by rfl, ?_⟩) hHeld ?_ ?_
              rotate_left
              ·rintro w' ⟨s0, s1, s2, s3, s4⟩
               go_simp
               with_reducible rfl
              rotate_left
              ·simp only [Act.put, zY, List.set_cons_zero, z2, i64_w, i32_w]
               rfl
              refine pure_ (i := 30) (N := some 51) (v := ?_) (a' := ?_) #[true, true, true, true, true, true, true, true, true, true, true, true, true, true, true, true, true, true, true, true, true, true, true, true, true, true, true, true, true, true, true, false, false, false, false, false] rfl rfl (any_of HT_.out (by kernel_rfl)) (fun _ _ _ h => h) (Or.inl ⟨by rfl, ?_⟩) ?_ ?_
              rotate_left
              ·intro w'
               go_simp
               with_reducible rfl
              rotate_left
              ·simp only [Act.put, zY, List.set_cons_zero, z2, i64_w, i32_w]
               rfl
              refine pure_ (i := 31) (N := some 52) (v := ?_) (a' := ?_) #[true, true, true, true, true, true, true, true, true, true, true, true, true, true, true, true, true, true, true, true, true, true, true, true, true, true, true, true, true, true, true, true, false, false, false, false] rfl rfl (any_of HT_.out (by kernel_rfl)) (fun _ _ _ h => h) (Or.inl ⟨by rfl, ?_⟩) ?_ ?_
              rotate_left
              ·intro w'
               go_simp
               with_reducible rfl
              rotate_left
              ·simp only [Act.put, zY, List.set_cons_zero, z2, i64_w, i32_w]
               rfl
              refine pure_ (i := 32) (N := some 53) (v := ?_) (a' := ?_) #[true, true, true, true, true, true, true, true, true, true, true, true, true, true, true, true, true, true, true, true, true, true, true, true, true, true, true, true, true, true, true, true, true, false, false, false] rfl rfl (any_of HT_.out (by kernel_rfl)) (fun _ _ _ h => h) (Or.inl ⟨by rfl, ?_⟩) ?_ ?_
              rotate_left
              ·intro w'
               go_simp
               with_reducible rfl
              rotate_left
              ·simp only [Act.put, zY, List.set_cons_zero, z2, i64_w, i32_w]
               rfl
              refine pure_ (i := 33) (N := some 54) (v := ?_) (a' := ?_) #[true, true, true, true, true, true, true, true, true, true, true, true, true, true, true, true, true, true, true, true, true, true, true, true, true, true, true, true, true, true, true, true, true, true, false, false] rfl rfl (any_of HT_.out (by kernel_rfl)) (fun _ _ _ h => h) (Or.inl ⟨by rfl, ?_⟩) ?_ ?_
              rotate_left
              ·intro w'
               go_simp
               with_reducible rfl
              rotate_left
              ·simp only [Act.put, zY, List.set_cons_zero, z2, i64_w, i32_w]
               rfl
              refine one_ (i := 34) (N := some 7) #[true, true, true, true, true, true, true, true, true, true, true, true, true, true, true, true, true, true, true, true, true, true, true, true, true, true, true, true, true, true, true, true, true, true, true, false] rfl rfl (one_of HT_.out (by kernel_rfl)) (by decide) (fun K hK => ?_)
              refine box_step ?hg (N := 7) ?hd (cs := #[.int .i64 0, .int .i64 0, .int .i64 0]) (t := 109) ?hr ?_; (case hd => rfl); (case hg => rfl); (case hr => first | (go_simp; done) | (go_simp; rfl))
              intro gb115 hg w19 hbox hb
              replace HO_5 := zA (Kd.R_below (Kd.R_elderB (by (with_reducible repeat (first | apply zR | apply zS | apply zT)); exact HO_5.out) gb115 (Nat.le_of_eq hg.symm)) hb)
              have BK115 := zA (hbox)
              have GW115 := zA ((by rw [hg]; exact (below_size (by repeat (first | (with_reducible first | exact HB.out | apply zB | apply zN | apply below_drew1) | exact HB.out))) : w.heap.size ≤ gb115))
              have GE115 := GW115
              replace HB := zA (below_step (by repeat (first | (with_reducible first | exact HB.out | apply zB | apply zN | apply below_drew1) | exact HB.out)) hb)
              clear hb hbox hg
              refine hK.out _ _ ⟨((HB.out.cell (zL w _ hw110_0)).trans hw110_0), ((HB.out.cell (zL w _ hw111_0)).trans hw111_0), ((HB.out.cell (zL w _ hw112_0)).trans hw112_0), ((HB.out.cell (zL w _ hw113_0)).trans hw113_0), ((HB.out.cell (zL w _ hw114_0)).trans hw114_0)⟩ (fun hHeld => ?_)
              clear hK K
              refine norm_ (a' := ?_) ?_ ?_
              rotate_left
              ·show Act.put _ (some 7) _ = _
               simp only [Act.put, zY, List.set_cons_zero, z2, i64_w, i32_w]
               rfl
              refine one_ (i := 35) (N := none) #[true, true, true, true, true, true, true, true, true, true, true, true, true, true, true, true, true, true, true, true, true, true, true, true, true, true, true, true, true, true, true, true, true, true, true, true] rfl rfl (one_of HT_.out (by kernel_rfl)) (by decide) (fun K hK => ?_)
              have hs20 : w19.cell? ⟨gb115, 0, none⟩ = some (.int .i64 0) := (zC BK115.out 0).trans rfl
              have hfs20 := zF BK115.out 0
              have hs21 : w19.cell? ⟨gb115, 1, none⟩ = some (.int .i64 0) := (zC BK115.out 1).trans rfl
              have hfs21 := zF BK115.out 1
              have hs22 : w19.cell? ⟨gb115, 2, none⟩ = some (.int .i64 0) := (zC BK115.out 2).trans rfl
              have hfs22 := zF BK115.out 2
              refine skip_ (w1 := ?_) (by rfl) rfl ?_ ?_
              rotate_left
              ·go_simp
               rfl
              refine hK.out _ _ ⟨((cell_far (p := ⟨gb115, _, none⟩) (by first | exact Nat.ne_of_lt (Nat.lt_of_lt_of_le (by have := zL _ _ hw110_0; first | rwa [add_block] at this | exact this) GW115.out) | (rw [add_block]; exact Nat.ne_of_lt (Nat.lt_of_lt_of_le (by have := zL _ _ hw110_0; first | rwa [add_block] at this | exact this) GW115.out)) | (show (Addr.add _ _).block ≠ _; rw [add_block]; exact Nat.ne_of_lt (Nat.lt_of_lt_of_le (by have := zL _ _ hw110_0; first | rwa [add_block] at this | exact this) GW115.out)) | (dsimp only; exact Nat.ne_of_lt (Nat.lt_of_lt_of_le (by have := zL _ _ hw110_0; first | rwa [add_block] at this | exact this) GW115.out))) _).trans (((cell_far (p := ⟨gb115, _, none⟩) (by first | exact Nat.ne_of_lt (Nat.lt_of_lt_of_le (by have := zL _ _ hw110_0; first | rwa [add_block] at this | exact this) GW115.out) | (rw [add_block]; exact Nat.ne_of_lt (Nat.lt_of_lt_of_le (by have := zL _ _ hw110_0; first | rwa [add_block] at this | exact this) GW115.out)) | (show (Addr.add _ _).block ≠ _; rw [add_block]; exact Nat.ne_of_lt (Nat.lt_of_lt_of_le (by have := zL _ _ hw110_0; first | rwa [add_block] at this | exact this) GW115.out)) | (dsimp only; exact Nat.ne_of_lt (Nat.lt_of_lt_of_le (by have := zL _ _ hw110_0; first | rwa [add_block] at this | exact this) GW115.out))) _).trans (((cell_far (p := ⟨gb115, _, none⟩) (by first | exact Nat.ne_of_lt (Nat.lt_of_lt_of_le (by have := zL _ _ hw110_0; first | rwa [add_block] at this | exact this) GW115.out) | (rw [add_block]; exact Nat.ne_of_lt (Nat.lt_of_lt_of_le (by have := zL _ _ hw110_0; first | rwa [add_block] at this | exact this) GW115.out)) | (show (Addr.add _ _).block ≠ _; rw [add_block]; exact Nat.ne_of_lt (Nat.lt_of_lt_of_le (by have := zL _ _ hw110_0; first | rwa [add_block] at this | exact this) GW115.out)) | (dsimp only; exact Nat.ne_of_lt (Nat.lt_of_lt_of_le (by have := zL _ _ hw110_0; first | rwa [add_block] at this | exact this) GW115.out))) _).trans (hHeld.1)))))), ((cell_far (p := ⟨gb115, _, none⟩) (by first | exact Nat.ne_of_lt (Nat.lt_of_lt_of_le (by have := zL _ _ hw111_0; first | rwa [add_block] at this | exact this) GW115.out) | (rw [add_block]; exact Nat.ne_of_lt (Nat.lt_of_lt_of_le (by have := zL _ _ hw111_0; first | rwa [add_block] at this | exact this) GW115.out)) | (show (Addr.add _ _).block ≠ _; rw [add_block]; exact Nat.ne_of_lt (Nat.lt_of_lt_of_le (by have := zL _ _ hw111_0; first | rwa [add_block] at this | exact this) GW115.out)) | (dsimp only; exact Nat.ne_of_lt (Nat.lt_of_lt_of_le (by have := zL _ _ hw111_0; first | rwa [add_block] at this | exact this) GW115.out))) _).trans (((cell_far (p := ⟨gb115, _, none⟩) (by first | exact Nat.ne_of_lt (Nat.lt_of_lt_of_le (by have := zL _ _ hw111_0; first | rwa [add_block] at this | exact this) GW115.out) | (rw [add_block]; exact Nat.ne_of_lt (Nat.lt_of_lt_of_le (by have := zL _ _ hw111_0; first | rwa [add_block] at this | exact this) GW115.out)) | (show (Addr.add _ _).block ≠ _; rw [add_block]; exact Nat.ne_of_lt (Nat.lt_of_lt_of_le (by have := zL _ _ hw111_0; first | rwa [add_block] at this | exact this) GW115.out)) | (dsimp only; exact Nat.ne_of_lt (Nat.lt_of_lt_of_le (by have := zL _ _ hw111_0; first | rwa [add_block] at this | exact this) GW115.out))) _).trans (((cell_far (p := ⟨gb115, _, none⟩) (by first | exact Nat.ne_of_lt (Nat.lt_of_lt_of_le (by have := zL _ _ hw111_0; first | rwa [add_block] at this | exact this) GW115.out) | (rw [add_block]; exact Nat.ne_of_lt (Nat.lt_of_lt_of_le (by have := zL _ _ hw111_0; first | rwa [add_block] at this | exact this) GW115.out)) | (show (Addr.add _ _).block ≠ _; rw [add_block]; exact Nat.ne_of_lt (Nat.lt_of_lt_of_le (by have := zL _ _ hw111_0; first | rwa [add_block] at this | exact this) GW115.out)) | (dsimp only; exact Nat.ne_of_lt (Nat.lt_of_lt_of_le (by have := zL _ _ hw111_0; first | rwa [add_block] at this | exact this) GW115.out))) _).trans (hHeld.2.1)))))), ((cell_far (p := ⟨gb115, _, none⟩) (by first | exact Nat.ne_of_lt (Nat.lt_of_lt_of_le (by have := zL _ _ hw112_0; first | rwa [add_block] at this | exact this) GW115.out) | (rw [add_block]; exact Nat.ne_of_lt (Nat.lt_of_lt_of_le (by have := zL _ _ hw112_0; first | rwa [add_block] at this | exact this) GW115.out)) | (show (Addr.add _ _).block ≠ _; rw [add_block]; exact Nat.ne_of_lt (Nat.lt_of_lt_of_le (by have := zL _ _ hw112_0; first | rwa [add_block] at this | exact this) GW115.out)) | (dsimp only; exact Nat.ne_of_lt (Nat.lt_of_lt_of_le (by have := zL _ _ hw112_0; first | rwa [add_block] at this | exact this) GW115.out))) _).trans (((cell_far (p := ⟨gb115, _, none⟩) (by first | exact Nat.ne_of_lt (Nat.lt_of_lt_of_le (by have := zL _ _ hw112_0; first | rwa [add_block] at this | exact this) GW115.out) | (rw [add_block]; exact Nat.ne_of_lt (Nat.lt_of_lt_of_le (by have := zL _ _ hw112_0; first | rwa [add_block] at this | exact this) GW115.out)) | (show (Addr.add _ _).block ≠ _; rw [add_block]; exact Nat.ne_of_lt (Nat.lt_of_lt_of_le (by have := zL _ _ hw112_0; first | rwa [add_block] at this | exact this) GW115.out)) | (dsimp only; exact Nat.ne_of_lt (Nat.lt_of_lt_of_le (by have := zL _ _ hw112_0; first | rwa [add_block] at this | exact this) GW115.out))) _).trans (((cell_far (p := ⟨gb115, _, none⟩) (by first | exact Nat.ne_of_lt (Nat.lt_of_lt_of_le (by have := zL _ _ hw112_0; first | rwa [add_block] at this | exact this) GW115.out) | (rw [add_block]; exact Nat.ne_of_lt (Nat.lt_of_lt_of_le (by have := zL _ _ hw112_0; first | rwa [add_block] at this | exact this) GW115.out)) | (show (Addr.add _ _).block ≠ _; rw [add_block]; exact Nat.ne_of_lt (Nat.lt_of_lt_of_le (by have := zL _ _ hw112_0; first | rwa [add_block] at this | exact this) GW115.out)) | (dsimp only; exact Nat.ne_of_lt (Nat.lt_of_lt_of_le (by have := zL _ _ hw112_0; first | rwa [add_block] at this | exact this) GW115.out))) _).trans (hHeld.2.2.1)))))), ((cell_far (p := ⟨gb115, _, none⟩) (by first | exact Nat.ne_of_lt (Nat.lt_of_lt_of_le (by have := zL _ _ hw113_0; first | rwa [add_block] at this | exact this) GW115.out) | (rw [add_block]; exact Nat.ne_of_lt (Nat.lt_of_lt_of_le (by have := zL _ _ hw113_0; first | rwa [add_block] at this | exact this) GW115.out)) | (show (Addr.add _ _).block ≠ _; rw [add_block]; exact Nat.ne_of_lt (Nat.lt_of_lt_of_le (by have := zL _ _ hw113_0; first | rwa [add_block] at this | exact this) GW115.out)) | (dsimp only; exact Nat.ne_of_lt (Nat.lt_of_lt_of_le (by have := zL _ _ hw113_0; first | rwa [add_block] at this | exact this) GW115.out))) _).trans (((cell_far (p := ⟨gb115, _, none⟩) (by first | exact Nat.ne_of_lt (Nat.lt_of_lt_of_le (by have := zL _ _ hw113_0; first | rwa [add_block] at this | exact this) GW115.out) | (rw [add_block]; exact Nat.ne_of_lt (Nat.lt_of_lt_of_le (by have := zL _ _ hw113_0; first | rwa [add_block] at this | exact this) GW115.out)) | (show (Addr.add _ _).block ≠ _; rw [add_block]; exact Nat.ne_of_lt (Nat.lt_of_lt_of_le (by have := zL _ _ hw113_0; first | rwa [add_block] at this | exact this) GW115.out)) | (dsimp only; exact Nat.ne_of_lt (Nat.lt_of_lt_of_le (by have := zL _ _ hw113_0; first | rwa [add_block] at this | exact this) GW115.out))) _).trans (((cell_far (p := ⟨gb115, _, none⟩) (by first | exact Nat.ne_of_lt (Nat.lt_of_lt_of_le (by have := zL _ _ hw113_0; first | rwa [add_block] at this | exact this) GW115.out) | (rw [add_block]; exact Nat.ne_of_lt (Nat.lt_of_lt_of_le (by have := zL _ _ hw113_0; first | rwa [add_block] at this | exact this) GW115.out)) | (show (Addr.add _ _).block ≠ _; rw [add_block]; exact Nat.ne_of_lt (Nat.lt_of_lt_of_le (by have := zL _ _ hw113_0; first | rwa [add_block] at this | exact this) GW115.out)) | (dsimp only; exact Nat.ne_of_lt (Nat.lt_of_lt_of_le (by have := zL _ _ hw113_0; first | rwa [add_block] at this | exact this) GW115.out))) _).trans (hHeld.2.2.2.1)))))), ((cell_far (p := ⟨gb115, _, none⟩) (by first | exact Nat.ne_of_lt (Nat.lt_of_lt_of_le (by have := zL _ _ hw114_0; first | rwa [add_block] at this | exact this) GW115.out) | (rw [add_block]; exact Nat.ne_of_lt (Nat.lt_of_lt_of_le (by have := zL _ _ hw114_0; first | rwa [add_block] at this | exact this) GW115.out)) | (show (Addr.add _ _).block ≠ _; rw [add_block]; exact Nat.ne_of_lt (Nat.lt_of_lt_of_le (by have := zL _ _ hw114_0; first | rwa [add_block] at this | exact this) GW115.out)) | (dsimp only; exact Nat.ne_of_lt (Nat.lt_of_lt_of_le (by have := zL _ _ hw114_0; first | rwa [add_block] at this | exact this) GW115.out))) _).trans (((cell_far (p := ⟨gb115, _, none⟩) (by first | exact Nat.ne_of_lt (Nat.lt_of_lt_of_le (by have := zL _ _ hw114_0; first | rwa [add_block] at this | exact this) GW115.out) | (rw [add_block]; exact Nat.ne_of_lt (Nat.lt_of_lt_of_le (by have := zL _ _ hw114_0; first | rwa [add_block] at this | exact this) GW115.out)) | (show (Addr.add _ _).block ≠ _; rw [add_block]; exact Nat.ne_of_lt (Nat.lt_of_lt_of_le (by have := zL _ _ hw114_0; first | rwa [add_block] at this | exact this) GW115.out)) | (dsimp only; exact Nat.ne_of_lt (Nat.lt_of_lt_of_le (by have := zL _ _ hw114_0; first | rwa [add_block] at this | exact this) GW115.out))) _).trans (((cell_far (p := ⟨gb115, _, none⟩) (by first | exact Nat.ne_of_lt (Nat.lt_of_lt_of_le (by have := zL _ _ hw114_0; first | rwa [add_block] at this | exact this) GW115.out) | (rw [add_block]; exact Nat.ne_of_lt (Nat.lt_of_lt_of_le (by have := zL _ _ hw114_0; first | rwa [add_block] at this | exact this) GW115.out)) | (show (Addr.add _ _).block ≠ _; rw [add_block]; exact Nat.ne_of_lt (Nat.lt_of_lt_of_le (by have := zL _ _ hw114_0; first | rwa [add_block] at this | exact this) GW115.out)) | (dsimp only; exact Nat.ne_of_lt (Nat.lt_of_lt_of_le (by have := zL _ _ hw114_0; first | rwa [add_block] at this | exact this) GW115.out))) _).trans (hHeld.2.2.2.2))))))⟩ (fun hHeld => ?_)
              clear hK K
              refine done_ (done_of HT_.out (by kernel_rfl)) ?_
              go_upto_region 8 with (fail)
              go_cut [62] (fun v62 wc => ∃ (kq : Nat) (x62_16 : Bool), v62 = .bool x62_16 ∧ Aside0 (r13_Decode.j1 kq l0 x5_1 x6_1 x62_16 (wrap64 (rd l0 x6_1)) (wrap64 ((wrap64 (rd l0 (ji5))) + (wrap64 (256 * (wrap64 (rd l0 (ji8))))))) (wrap64 ((wrap64 (rd l0 (ji11))) + (wrap64 (256 * (wrap64 (rd l0 (ji14))))))) = some (r1, r2, r3)) ∧ Aside0 (kq ≤ k1) ∧ Aside0 (Kd.R k109 109 wc w.heap.size (fun k_ => k_ ≠ gb115) u5 x5_1) ∧ Aside0 (wc.heap[gb115]? = some (.cells #[.int .i64 (wrap64 (rd l0 x6_1)), .int .i64 (wrap64 ((wrap64 (rd l0 (ji5))) + (wrap64 (256 * (wrap64 (rd l0 (ji8))))))), .int .i64 (wrap64 ((wrap64 (rd l0 (ji11))) + (wrap64 (256 * (wrap64 (rd l0 (ji14)))))))] 109 (0, 0))) ∧ Aside0 (Below w.heap.size w wc))
              case first =>
               have H := HC17.out
               clear HC17
               by_cases c23 : (wrap64 (rd l0 x6_1)) ≥ 48
               ·rw [if_pos c23] at H
                have c23b0 : decide (48 ≤ (wrap64 (rd l0 x6_1))) = true := decide_eq_true c23
                clear c23
                (first | rw [c23b0] | (simp only [i64_w, i32_w]; rw [c23b0]) | skip)
                have H' := zA H
                clear H
                have hcz24_0 : w19.cell? ⟨gb115, 0, none⟩ = some (.int .i64 0) := (zC BK115.out 0).trans rfl
                have hcz24_1 : w19.cell? ⟨gb115, 1, none⟩ = some (.int .i64 0) := (zC BK115.out 1).trans rfl
                have hcz24_2 : w19.cell? ⟨gb115, 2, none⟩ = some (.int .i64 0) := (zC BK115.out 2).trans rfl
                have hfz24_0 := zF BK115.out 0
                have hfz24_1 := zF BK115.out 1
                have hfz24_2 := zF BK115.out 2
                go_wp2
                go_meet
                case rel => exact ⟨_, (decide ((wrap64 (rd l0 x6_1)) ≤ 55)), (by first | rfl | (simp; done) | (simp [*]; done)), H', ⟨by have := HK1.out; first | omega | exact z5 _⟩, ⟨by (with_reducible repeat (first | apply zR | apply zS | apply zT)); exact Kd.R_mono (Kd.R_far (p := ⟨gb115, 2, none⟩) (Kd.R_far (p := ⟨gb115, 1, none⟩) (Kd.R_far (p := ⟨gb115, 0, none⟩) (Kd.R_mono HO_5.out (fun k_ hk => (⟨hk, hk.2⟩ : _ ∧ k_ ≠ gb115))) (fun _ hk => hk.2) (.int .i64 (wrap64 (rd l0 x6_1)))) (fun _ hk => hk.2) (.int .i64 (wrap64 ((wrap64 (rd l0 (ji5))) + (wrap64 (256 * (wrap64 (rd l0 (ji8))))))))) (fun _ hk => hk.2) (.int .i64 (wrap64 ((wrap64 (rd l0 (ji11))) + (wrap64 (256 * (wrap64 (rd l0 (ji14))))))))) (fun _ hk => hk.1.2)⟩, ⟨by (with_reducible repeat (first | refine zG ?_ _ | refine zH ?_)); refine blk_put (cs := #[.int .i64 (wrap64 (rd l0 x6_1)), .int .i64 (wrap64 ((wrap64 (rd l0 (ji5))) + (wrap64 (256 * (wrap64 (rd l0 (ji8))))))), .int .i64 0]) ?_ 2 _ rfl; (with_reducible repeat (first | refine zG ?_ _ | refine zH ?_)); refine blk_put (cs := #[.int .i64 (wrap64 (rd l0 x6_1)), .int .i64 0, .int .i64 0]) ?_ 1 _ rfl; (with_reducible repeat (first | refine zG ?_ _ | refine zH ?_)); refine blk_put (cs := #[.int .i64 0, .int .i64 0, .int .i64 0]) ?_ 0 _ rfl; (with_reducible repeat (first | refine zG ?_ _ | refine zH ?_)); exact BK115.out⟩, ⟨by repeat (first | (with_reducible first | exact HB.out | apply zB | apply zN | apply below_drew1 | refine zE ?_ GE115.out) | exact HB.out)⟩⟩
               ·rw [if_neg c23] at H
                have c23b0 : decide (48 ≤ (wrap64 (rd l0 x6_1))) = false := decide_eq_false c23
                clear c23
                (first | rw [c23b0] | (simp only [i64_w, i32_w]; rw [c23b0]) | skip)
                have H' := zA H
                clear H
                have hcz25_0 : w19.cell? ⟨gb115, 0, none⟩ = some (.int .i64 0) := (zC BK115.out 0).trans rfl
                have hcz25_1 : w19.cell? ⟨gb115, 1, none⟩ = some (.int .i64 0) := (zC BK115.out 1).trans rfl
                have hcz25_2 : w19.cell? ⟨gb115, 2, none⟩ = some (.int .i64 0) := (zC BK115.out 2).trans rfl
                have hfz25_0 := zF BK115.out 0
                have hfz25_1 := zF BK115.out 1
                have hfz25_2 := zF BK115.out 2
                go_wp2
                go_meet
                case rel => exact ⟨_, (false), (by first | rfl | (simp; done) | (simp [*]; done)), H', ⟨by have := HK1.out; first | omega | exact z5 _⟩, ⟨by (with_reducible repeat (first | apply zR | apply zS | apply zT)); exact Kd.R_mono (Kd.R_far (p := ⟨gb115, 2, none⟩) (Kd.R_far (p := ⟨gb115, 1, none⟩) (Kd.R_far (p := ⟨gb115, 0, none⟩) (Kd.R_mono HO_5.out (fun k_ hk => (⟨hk, hk.2⟩ : _ ∧ k_ ≠ gb115))) (fun _ hk => hk.2) (.int .i64 (wrap64 (rd l0 x6_1)))) (fun _ hk => hk.2) (.int .i64 (wrap64 ((wrap64 (rd l0 (ji5))) + (wrap64 (256 * (wrap64 (rd l0 (ji8))))))))) (fun _ hk => hk.2) (.int .i64 (wrap64 ((wrap64 (rd l0 (ji11))) + (wrap64 (256 * (wrap64 (rd l0 (ji14))))))))) (fun _ hk => hk.1.2)⟩, ⟨by (with_reducible repeat (first | refine zG ?_ _ | refine zH ?_)); refine blk_put (cs := #[.int .i64 (wrap64 (rd l0 x6_1)), .int .i64 (wrap64 ((wrap64 (rd l0 (ji5))) + (wrap64 (256 * (wrap64 (rd l0 (ji8))))))), .int .i64 0]) ?_ 2 _ rfl; (with_reducible repeat (first | refine zG ?_ _ | refine zH ?_)); refine blk_put (cs := #[.int .i64 (wrap64 (rd l0 x6_1)), .int .i64 0, .int .i64 0]) ?_ 1 _ rfl; (with_reducible repeat (first | refine zG ?_ _ | refine zH ?_)); refine blk_put (cs := #[.int .i64 0, .int .i64 0, .int .i64 0]) ?_ 0 _ rfl; (with_reducible repeat (first | refine zG ?_ _ | refine zH ?_)); exact BK115.out⟩, ⟨by repeat (first | (with_reducible first | exact HB.out | apply zB | apply zN | apply below_drew1 | refine zE ?_ GE115.out) | exact HB.out)⟩⟩
              case rest =>
               clear HC17
               try clear c1
               try clear p1
               try clear q1
               try clear hx1
               try clear c2
               try clear c2b0
               try clear p2
               try clear c3
               try clear c3b0
               try clear c4
               try clear c4b0
               try clear c6
               try clear c6b0
               try clear p6
               try clear c7
               try clear c7b0
               try clear c9
               try clear c9b0
               try clear c10
               try clear c10b0
               try clear c11
               try clear p11
               try clear q11
               try clear hx11
               try clear c12
               try clear c12b0
               try clear c13
               try clear c13b0
               try clear c15
               try clear c15b0
               try clear c16
               try clear c16b0
               try clear c23
               try clear c23b0
               try clear hcz24_0
               try clear hcz24_1
               try clear hcz24_2
               try clear hcz25_0
               try clear hcz25_1
               try clear hcz25_2
               try clear hfz24_0
               try clear hfz24_1
               try clear hfz24_2
               try clear hfz25_0
               try clear hfz25_1
               try clear hfz25_2
               try clear hx110_0
               try clear hx111_0
               try clear hx112_0
               try clear hx113_0
               try clear hx114_0
               try clear p110
               try clear p111
               try clear p112
               try clear p113
               try clear p114
               try clear q110
               try clear q111
               try clear q112
               try clear q113
               try clear q114
               obtain ⟨kq, x62_16, rfl, HA, HJ16, HO_5, BK115, HB⟩ := hcut
               cases kq with
               | zero => exact absurd HA.out (by simp [r13_Decode.j1])
               | succ kj16 =>
                have H := HA.out
                clear HA
                simp only [r13_Decode.j1] at H
                by_cases c26 : x62_16 = true
                ·subst c26
                 have H1 : (some (([] : List (S109)), wrap64 (Int.tdiv x6_1 5), 6)) = some (r1, r2, r3) := by rw [if_pos rfl] at H; exact H
                 clear H
                 have H := H1
                 clear H1
                 simp only [Option.some.injEq, Prod.mk.injEq] at H
                 obtain ⟨rfl, rfl, rfl⟩ := H
                 go_wp2
                 go_ret3
                 exact ⟨_, by first | rfl | (simp [errW_none, errW_some] <;> rfl) | (simp only [← hji5, ← hji8, ← hji11, ← hji14]; first | rfl | (simp [errW_none, errW_some] <;> rfl)) | (simp [*, errW_none, errW_some] <;> rfl), by first | exact Kd.R_nil _ _ _ _ _ | exact Kd.N_nil _ _ _ _ _ | exact Kd.V_nil _ _ _ _ _ | exact Kd.Q_nil _ _ _ _ _ | exact Kd.S_nil _ _ _ _ _, by repeat (first | (with_reducible first | exact HB.out | apply zB | apply zN | apply below_drew1 | refine zE ?_ GE115.out) | exact HB.out)⟩
                ·replace c26 := Bool.eq_false_iff.mpr c26
                 subst c26
                 have H1 : ((r12_Right.f kj16 (wrap64 (rd l0 x6_1)) (wrap64 ((wrap64 (rd l0 (ji5))) + (wrap64 (256 * (wrap64 (rd l0 (ji8))))))) (wrap64 ((wrap64 (rd l0 (ji11))) + (wrap64 (256 * (wrap64 (rd l0 (ji14)))))))).bind fun t116 => (if t116 = true then (if x5_1.length < 5864062014805 then (r13_Decode.l0 kj16 l0 (x5_1 ++ [(⟨(wrap64 (rd l0 x6_1)), (wrap64 ((wrap64 (rd l0 (ji5))) + (wrap64 (256 * (wrap64 (rd l0 (ji8))))))), (wrap64 ((wrap64 (rd l0 (ji11))) + (wrap64 (256 * (wrap64 (rd l0 (ji14)))))))⟩ : S109)]) (wrap64 (x6_1 + 5))) else (none)) else (some (([] : List (S109)), wrap64 (Int.tdiv x6_1 5), 7)))) = some (r1, r2, r3) := by rw [if_neg (show ¬ (false = true) by decide)] at H; exact H
                 clear H
                 have H := H1
                 clear H1
                 replace H := Option.bind_eq_some_iff.mp H
                 obtain ⟨t116, A270, H⟩ := H
                 replace H : (if t116 = true then (if x5_1.length < 5864062014805 then (r13_Decode.l0 kj16 l0 (x5_1 ++ [(⟨(wrap64 (rd l0 x6_1)), (wrap64 ((wrap64 (rd l0 (ji5))) + (wrap64 (256 * (wrap64 (rd l0 (ji8))))))), (wrap64 ((wrap64 (rd l0 (ji11))) + (wrap64 (256 * (wrap64 (rd l0 (ji14)))))))⟩ : S109)]) (wrap64 (x6_1 + 5))) else (none)) else (some (([] : List (S109)), wrap64 (Int.tdiv x6_1 5), 7))) = some (r1, r2, r3) := H
                 have A27 := zA A270
                 clear A270
                 by_cases c28 : t116 = true
                 ·subst c28
                  have H1 : (if x5_1.length < 5864062014805 then (r13_Decode.l0 kj16 l0 (x5_1 ++ [(⟨(wrap64 (rd l0 x6_1)), (wrap64 ((wrap64 (rd l0 (ji5))) + (wrap64 (256 * (wrap64 (rd l0 (ji8))))))), (wrap64 ((wrap64 (rd l0 (ji11))) + (wrap64 (256 * (wrap64 (rd l0 (ji14)))))))⟩ : S109)]) (wrap64 (x6_1 + 5))) else (none)) = some (r1, r2, r3) := by rw [if_pos rfl] at H; exact H
                  clear H
                  have H := H1
                  clear H1
                  by_cases c29 : x5_1.length < 5864062014805
                  ·rw [if_pos c29] at H
                   have LMc29 := zA c29
                   clear c29
                   obtain ⟨y117, hy117⟩ : ∃ y_ : List (S109), y_ = (x5_1 ++ [(⟨(wrap64 (rd l0 x6_1)), (wrap64 ((wrap64 (rd l0 (ji5))) + (wrap64 (256 * (wrap64 (rd l0 (ji8))))))), (wrap64 ((wrap64 (rd l0 (ji11))) + (wrap64 (256 * (wrap64 (rd l0 (ji14)))))))⟩ : S109)]) := ⟨_, rfl⟩
                   replace H : (r13_Decode.l0 kj16 l0 y117 (wrap64 (x6_1 + 5))) = some (r1, r2, r3) := by first | (rw [hy117]; with_reducible exact H) | (have H2_ := (zP _ _).symm.trans H; rw [hy117]; with_reducible exact H2_) | (have H2_ := (zP _ _).symm.trans H; with_reducible exact H2_) | with_reducible exact H | (rw [hy117]; exact H) | exact H
                   have Ny117 := zA hy117
                   clear hy117
                   have H' := zA H
                   clear H
                   have hcz30_0 : wc.cell? ⟨gb115, 0, none⟩ = some (.int .i64 (wrap64 (rd l0 x6_1))) := (zC BK115.out 0).trans rfl
                   have hcz30_1 : wc.cell? ⟨gb115, 1, none⟩ = some (.int .i64 (wrap64 ((wrap64 (rd l0 (ji5))) + (wrap64 (256 * (wrap64 (rd l0 (ji8)))))))) := (zC BK115.out 1).trans rfl
                   have hcz30_2 : wc.cell? ⟨gb115, 2, none⟩ = some (.int .i64 (wrap64 ((wrap64 (rd l0 (ji11))) + (wrap64 (256 * (wrap64 (rd l0 (ji14)))))))) := (zC BK115.out 2).trans rfl
                   have hfz30_0 := zF BK115.out 0
                   have hfz30_1 := zF BK115.out 1
                   have hfz30_2 := zF BK115.out 2
                   go_wp2_with (first | ((with_reducible refine gate_callee (f := 98) rfl ?_); refine goesL_ (some 66) rfl rfl Tryd.func98 (by kernel_rfl) rfl #[.agg #[.int .i64 (wrap64 (rd l0 x6_1)), .int .i64 (wrap64 ((wrap64 (rd l0 (ji5))) + (wrap64 (256 * (wrap64 (rd l0 (ji8))))))), .int .i64 (wrap64 ((wrap64 (rd l0 (ji11))) + (wrap64 (256 * (wrap64 (rd l0 (ji14)))))))]] rfl (by (try simp only [zm, zc, zn]); first | done | (simp only [hji11, hji14, hji5, hji8]; rfl) | rfl | (simp only [zd, zt]; rfl)) ?_; (with_reducible refine (r12_Right.calls kj16 (wrap64 (rd l0 x6_1)) (wrap64 ((wrap64 (rd l0 (ji5))) + (wrap64 (256 * (wrap64 (rd l0 (ji8))))))) (wrap64 ((wrap64 (rd l0 (ji11))) + (wrap64 (256 * (wrap64 (rd l0 (ji14))))))) true _ A27.out).mono ?_); rintro e w31 ⟨rfl, hb⟩; refine ⟨_, rfl, ?_⟩; replace HO_5 := zA (Kd.R_below (by (with_reducible repeat (first | apply zR | apply zS | apply zT)); exact HO_5.out) hb); replace BK115 := zA (zQ (g := gb115) (o := .cells #[.int .i64 (wrap64 (rd l0 x6_1)), .int .i64 (wrap64 ((wrap64 (rd l0 (ji5))) + (wrap64 (256 * (wrap64 (rd l0 (ji8))))))), .int .i64 (wrap64 ((wrap64 (rd l0 (ji11))) + (wrap64 (256 * (wrap64 (rd l0 (ji14)))))))] 109 (0, 0)) (by (with_reducible repeat (first | refine zG ?_ _ | refine zH ?_)); exact BK115.out) hb); replace HB := zA (below_step (by repeat (first | (with_reducible first | exact HB.out | apply zB | apply zN | apply below_drew1 | refine zE ?_ GE115.out) | exact HB.out)) hb); (try clear hb); (try clear hb2); (try clear hk); (try clear hi); have hcz32_0 : w31.cell? ⟨gb115, 0, none⟩ = some (.int .i64 (wrap64 (rd l0 x6_1))) := (zC BK115.out 0).trans rfl; have hcz32_1 : w31.cell? ⟨gb115, 1, none⟩ = some (.int .i64 (wrap64 ((wrap64 (rd l0 (ji5))) + (wrap64 (256 * (wrap64 (rd l0 (ji8)))))))) := (zC BK115.out 1).trans rfl; have hcz32_2 : w31.cell? ⟨gb115, 2, none⟩ = some (.int .i64 (wrap64 ((wrap64 (rd l0 (ji11))) + (wrap64 (256 * (wrap64 (rd l0 (ji14)))))))) := (zC BK115.out 2).trans rfl; have hfz32_0 := zF BK115.out 0; have hfz32_1 := zF BK115.out 1; have hfz32_2 := zF BK115.out 2) | ((with_reducible refine gate_builtin (b := .append) (xs := #[.tmp 70, .tmp 72]) rfl ?_); at_builtin; refine Kd.R_append k109 (w0 := w) w.heap.size rfl (.tmp 70) (.tmp 72) 46 109 (.agg #[(.int .i64 0), (.int .i64 0), (.int .i64 0)]) 24 rfl Tryd.underlying46 info109 rfl (by decide) (by omega) u5 x5_1 (⟨(wrap64 (rd l0 x6_1)), (wrap64 ((wrap64 (rd l0 (ji5))) + (wrap64 (256 * (wrap64 (rd l0 (ji8))))))), (wrap64 ((wrap64 (rd l0 (ji11))) + (wrap64 (256 * (wrap64 (rd l0 (ji14)))))))⟩ : S109) [.int .i64 (wrap64 (rd l0 x6_1)), .int .i64 (wrap64 ((wrap64 (rd l0 (ji5))) + (wrap64 (256 * (wrap64 (rd l0 (ji8))))))), .int .i64 (wrap64 ((wrap64 (rd l0 (ji11))) + (wrap64 (256 * (wrap64 (rd l0 (ji14)))))))] (fun k_ => k_ ≠ gb115) (fun _ => False) rfl rfl ?aP (fun _ hk => hk.elim) ?aF ?aO ?aB ?aS ?aL ?_; (case aP => exact k109_mkM _ _ _ (⟨(wrap64 (rd l0 x6_1)), (wrap64 ((wrap64 (rd l0 (ji5))) + (wrap64 (256 * (wrap64 (rd l0 (ji8))))))), (wrap64 ((wrap64 (rd l0 (ji11))) + (wrap64 (256 * (wrap64 (rd l0 (ji14)))))))⟩ : S109)); (case aB => exact (by repeat (first | (with_reducible first | exact HB.out | apply zB | apply zN | apply below_drew1 | refine zE ?_ GE115.out) | exact HB.out))); (case aF => exact (fun k_ hk => Kd.freshB (g := gb115) (o := .cells #[.int .i64 (wrap64 (rd l0 x6_1)), .int .i64 (wrap64 ((wrap64 (rd l0 (ji5))) + (wrap64 (256 * (wrap64 (rd l0 (ji8))))))), .int .i64 (wrap64 ((wrap64 (rd l0 (ji11))) + (wrap64 (256 * (wrap64 (rd l0 (ji14)))))))] 109 (0, 0)) (by (with_reducible repeat (first | refine zG ?_ _ | refine zH ?_)); exact BK115.out) k_ hk)); (case aO => exact (by (with_reducible repeat (first | apply zR | apply zS | apply zT)); exact HO_5.out)); (case aS => exact (below_size (by repeat (first | (with_reducible first | exact HB.out | apply zB | apply zN | apply below_drew1 | refine zE ?_ GE115.out) | exact HB.out)))); (case aL => have := LMc29.out; omega); intro v118 w33 ho hb hg hat; rw [← Ny117.out] at ho; replace BK115 := zA (blk_grown (g := gb115) (o := .cells #[.int .i64 (wrap64 (rd l0 x6_1)), .int .i64 (wrap64 ((wrap64 (rd l0 (ji5))) + (wrap64 (256 * (wrap64 (rd l0 (ji8))))))), .int .i64 (wrap64 ((wrap64 (rd l0 (ji11))) + (wrap64 (256 * (wrap64 (rd l0 (ji14)))))))] 109 (0, 0)) (by (with_reducible repeat (first | refine zG ?_ _ | refine zH ?_)); exact BK115.out) hg (Kd.R_away HO_5.out (fun _ hk => hk))); replace HB := zA (hb); have HO119 := zA (ho); clear HO_5; clear ho hb hg hat))
                   go_roundg kj16
                   case measure => have := HK1.out; have := HJ16.out; omega
                   case rel => exact ⟨(y117), (wrap64 (x6_1 + 5)), (by first | rfl | (simp; done) | (simp [*]; done)), H', ⟨by have := HK1.out; have := HJ16.out; omega⟩, ⟨by (with_reducible repeat (first | apply zR | apply zS | apply zT)); exact Kd.R_mono HO119.out (fun _ hk => trivial)⟩, ⟨by repeat (first | (with_reducible first | exact HB.out | apply zB | apply zN | apply below_drew1 | refine zE ?_ GE115.out) | exact HB.out)⟩⟩
                  ·rw [if_neg c29] at H
                   exact absurd H (by simp)
                 ·replace c28 := Bool.eq_false_iff.mpr c28
                  subst c28
                  have H1 : (some (([] : List (S109)), wrap64 (Int.tdiv x6_1 5), 7)) = some (r1, r2, r3) := by rw [if_neg (show ¬ (false = true) by decide)] at H; exact H
                  clear H
                  have H := H1
                  clear H1
                  simp only [Option.some.injEq, Prod.mk.injEq] at H
                  obtain ⟨rfl, rfl, rfl⟩ := H
                  have hcz34_0 : wc.cell? ⟨gb115, 0, none⟩ = some (.int .i64 (wrap64 (rd l0 x6_1))) := (zC BK115.out 0).trans rfl
                  have hcz34_1 : wc.cell? ⟨gb115, 1, none⟩ = some (.int .i64 (wrap64 ((wrap64 (rd l0 (ji5))) + (wrap64 (256 * (wrap64 (rd l0 (ji8)))))))) := (zC BK115.out 1).trans rfl
                  have hcz34_2 : wc.cell? ⟨gb115, 2, none⟩ = some (.int .i64 (wrap64 ((wrap64 (rd l0 (ji11))) + (wrap64 (256 * (wrap64 (rd l0 (ji14)))))))) := (zC BK115.out 2).trans rfl
                  have hfz34_0 := zF BK115.out 0
                  have hfz34_1 := zF BK115.out 1
                  have hfz34_2 := zF BK115.out 2
                  go_wp2_with (first | ((with_reducible refine gate_callee (f := 98) rfl ?_); refine goesL_ (some 66) rfl rfl Tryd.func98 (by kernel_rfl) rfl #[.agg #[.int .i64 (wrap64 (rd l0 x6_1)), .int .i64 (wrap64 ((wrap64 (rd l0 (ji5))) + (wrap64 (256 * (wrap64 (rd l0 (ji8))))))), .int .i64 (wrap64 ((wrap64 (rd l0 (ji11))) + (wrap64 (256 * (wrap64 (rd l0 (ji14)))))))]] rfl (by (try simp only [zm, zc, zn]); first | done | (simp only [hji11, hji14, hji5, hji8]; rfl) | rfl | (simp only [zd, zt]; rfl)) ?_; (with_reducible refine (r12_Right.calls kj16 (wrap64 (rd l0 x6_1)) (wrap64 ((wrap64 (rd l0 (ji5))) + (wrap64 (256 * (wrap64 (rd l0 (ji8))))))) (wrap64 ((wrap64 (rd l0 (ji11))) + (wrap64 (256 * (wrap64 (rd l0 (ji14))))))) false _ A27.out).mono ?_); rintro e w35 ⟨rfl, hb⟩; refine ⟨_, rfl, ?_⟩; replace HO_5 := zA (Kd.R_below (by (with_reducible repeat (first | apply zR | apply zS | apply zT)); exact HO_5.out) hb); replace BK115 := zA (zQ (g := gb115) (o := .cells #[.int .i64 (wrap64 (rd l0 x6_1)), .int .i64 (wrap64 ((wrap64 (rd l0 (ji5))) + (wrap64 (256 * (wrap64 (rd l0 (ji8))))))), .int .i64 (wrap64 ((wrap64 (rd l0 (ji11))) + (wrap64 (256 * (wrap64 (rd l0 (ji14)))))))] 109 (0, 0)) (by (with_reducible repeat (first | refine zG ?_ _ | refine zH ?_)); exact BK115.out) hb); replace HB := zA (below_step (by repeat (first | (with_reducible first | exact HB.out | apply zB | apply zN | apply below_drew1 | refine zE ?_ GE115.out) | exact HB.out)) hb); (try clear hb); (try clear hb2); (try clear hk); (try clear hi)))
                  go_ret3
                  exact ⟨_, by first | rfl | (simp [errW_none, errW_some] <;> rfl) | (simp only [← hji5, ← hji8, ← hji11, ← hji14]; first | rfl | (simp [errW_none, errW_some] <;> rfl)) | (simp [*, errW_none, errW_some] <;> rfl), by first | exact Kd.R_nil _ _ _ _ _ | exact Kd.N_nil _ _ _ _ _ | exact Kd.V_nil _ _ _ _ _ | exact Kd.Q_nil _ _ _ _ _ | exact Kd.S_nil _ _ _ _ _, by repeat (first | (with_reducible first | exact HB.out | apply zB | apply zN | apply below_drew1 | refine zE ?_ GE115.out) | exact HB.out)⟩
             ·rw [if_neg c16] at H
              exact absurd H (by simp)
            ·rw [if_neg c15] at H
             exact absurd H (by simp)
           ·rw [if_neg c13] at H
            exact absurd H (by simp)
          ·rw [if_neg c12] at H
           exact absurd H (by simp)
         ·rw [if_neg c10] at H
          exact absurd H (by simp)
        ·rw [if_neg c9] at H
         exact absurd H (by simp)
       ·rw [if_neg c7] at H
        exact absurd H (by simp)
      ·rw [if_neg c6] at H
       exact absurd H (by simp)
     ·rw [if_neg c4] at H
      exact absurd H (by simp)
   ·rw [if_neg c2] at H
    have c2b0 : decide (x6_1 < (l0.length : Int)) = false := decide_eq_false c2
    clear c2
    simp only [Option.some.injEq, Prod.mk.injEq] at H
    obtain ⟨rfl, rfl, rfl⟩ := H
    go_wp2
    go_ret3
    exact ⟨_, by first | rfl | (simp [errW_none, errW_some] <;> rfl) | (simp [*, errW_none, errW_some] <;> rfl), by (with_reducible repeat (first | apply zR | apply zS | apply zT)); exact HO_5.out, by repeat (first | (with_reducible first | exact HB.out | apply zB | apply zN | apply below_drew1) | exact HB.out)⟩

end Go.Proofs.YtdbfgfgbjheibaaDoor.PCod
end

section
/- Instructions' bytes, plainly: the document's decoder tells what the program's does. -/
namespace Go.Proofs.YtdbfgfgbjheibaaDoor.Pure
open Go.RowKit Go.Proofs.YtdbfgfgbjheibaaDoor.PCod Go.Proofs.YtdbfgfgbjheibaaDoor.POp Go.Proofs.YtdbfgfgbjheibaaDoor.Given Go.Proofs.YtdbfgfgbjheibaaDoorW.PrintWords Go.Proofs.YtdbfgfgbjheibaaDoorW.PrintLast
set_option linter.unusedVariables false
set_option linter.unusedSimpArgs false
theorem w64 (x : Int) (h0 : -9223372036854775808 ≤ x) (h1 : x < 9223372036854775808) : wrap64 x = x := by unfold wrap64; omega
def mayF (n w : Int) : Bool := if w = 0 then n == 0 else decide (0 ≤ n) && decide (n ≤ 65535)
theorem may_is (n w : Int) : op_may.f n w = some (mayF n w) := by
 unfold op_may.f mayF
 by_cases h : w = 0
 ·rw [if_pos h, if_pos h]
 ·rw [if_neg h, if_neg h]
  by_cases h0 : 0 ≤ n
  ·rw [if_pos h0]; simp [h0]
  ·rw [if_neg h0]; simp [h0]
theorem is_is (x : Int) : op_Is.f x = some (isOp x) := by
 unfold op_Is.f isOp
 by_cases h0 : 0 ≤ x
 ·rw [if_pos h0]; simp [h0]
 ·rw [if_neg h0]; simp [h0]
theorem right_is (x y z : Int) : right3 x y z = (isOp x && mayF y (shapeA x) && mayF z (shapeB x)) := by
 have h : op_Right.f x y z = some (right3 x y z) := right_some x y z
 have h2 : op_Right.f x y z = some (isOp x && mayF y (shapeA x) && mayF z (shapeB x)) := by
  unfold op_Right.f op_Shape.f
  simp only [zP, is_is, may_is]
  cases isOp x <;> cases mayF y (shapeA x) <;> simp
 exact zJ (h.symm.trans h2)
theorem rmay_is (n w : Int) : r12_may.f n w = some (mayF n w) := by
 unfold r12_may.f mayF
 by_cases hn : n = 0
 ·rw [if_pos hn]; subst hn; by_cases h : w = 0 <;> simp [h]
 ·rw [if_neg hn]
  by_cases h : w = 0
  ·rw [if_pos h, if_pos h]; simp [hn]
  ·rw [if_neg h, if_neg h]
   by_cases h0 : n > 0
   ·rw [if_pos h0]
    congr 1
    rw [Bool.eq_iff_iff]
    simp
    omega
   ·rw [if_neg h0]
    congr 1
    rw [Bool.eq_iff_iff]
    simp
    omega
theorem shapes : ∀ n : Fin 38, r12_Shape.f 3 (n.val : Int) = some (shapeA n.val, shapeB n.val) := by decide +kernel
theorem shape_more (x : Int) : ∀ d, r12_Shape.f 3 x = some (shapeA x, shapeB x) → r12_Shape.f (3 + d) x = some (shapeA x, shapeB x) := by
 intro d h
 induction d with
 | zero => exact h
 | succ d ih => exact r12_Shape.mono x (3 + d) _ ih
theorem rshape (x : Int) (k : Nat) (hk : 3 ≤ k) : r12_Shape.f k x = some (shapeA x, shapeB x) := by
 rw [show k = 3 + (k - 3) by omega]
 refine shape_more x _ ?_
 by_cases h : isOp x = true
 ·unfold isOp at h
  simp only [Bool.and_eq_true, decide_eq_true_eq] at h
  obtain ⟨n, rfl⟩ := Int.eq_ofNat_of_zero_le h.1
  exact shapes ⟨n, by omega⟩
 ·unfold shapeA shapeB
  rw [if_neg h, if_neg h]
  unfold isOp at h
  simp only [Bool.and_eq_true, decide_eq_true_eq, not_and] at h
  unfold r12_Shape.f
  by_cases h0 : x < 0
  ·rw [if_pos h0]; rfl
  ·rw [if_neg h0, decide_eq_true (by omega)]; rfl
theorem rright (x y z : Int) (k : Nat) (hk : 3 ≤ k) : r12_Right.f k x y z = some (right3 x y z) := by
 rw [right_is]
 unfold r12_Right.f
 rw [rshape x k hk]
 simp only [zP, rmay_is]
 unfold isOp
 by_cases h0 : x ≥ 0
 ·rw [if_pos h0]
  by_cases h1 : x ≤ 37
  ·rw [if_pos h1, decide_eq_true (show 0 ≤ x from h0), decide_eq_true (show x < 38 by omega)]
   cases mayF y (shapeA x) <;> simp
  ·rw [if_neg h1, decide_eq_false (show ¬ x < 38 by omega)]; simp
 ·rw [if_neg h0, decide_eq_false h0]; simp
theorem real_is (x : Int) : isReal x = (decide (48 ≤ x) && decide (x ≤ 55)) := by
 have h := real_some x
 unfold POp.op_Real.f at h
 by_cases h0 : x ≥ 48
 ·rw [if_pos h0] at h
  rw [← zJ h]; simp [h0]
 ·rw [if_neg h0] at h
  rw [← zJ h]; simp [h0]
theorem rd_app (p l : List Int) (i : Nat) : rd (p ++ l) ((p.length + i : Nat) : Int) = l.getD i 0 := by
 unfold rd
 rw [Int.toNat_natCast, List.getD_eq_getElem?_getD, List.getD_eq_getElem?_getD, List.getElem?_append_right (by omega), Nat.add_sub_cancel_left]
theorem ref_dec : ∀ (n : Nat) (l p : List Int) (out : List S109) (k : Nat), l.length ≤ n → p.length = 5 * out.length → p.length + l.length ≤ 100000 → (∀ x ∈ l, 0 ≤ x ∧ x < 256) → 2 * n + 10 ≤ k →
  r13_Decode.l0 k (p ++ l) out (p.length : Int) = some (decF n l out) := by
 intro n
 induction n with
 | zero =>
  intro l p out k h1 h2 h3 h4 h5
  obtain rfl := List.eq_nil_of_length_eq_zero (by omega : l.length = 0)
  obtain ⟨k, rfl⟩ : ∃ m, k = m + 1 := ⟨k - 1, by omega⟩
  unfold r13_Decode.l0 decF
  rw [if_neg (by simp)]
 | succ n ih =>
  intro l p out k h1 h2 h3 h4 h5
  obtain ⟨k, rfl⟩ : ∃ m, k = m + 2 := ⟨k - 2, by omega⟩
  by_cases hl : l.length < 5
  ·have hdiv : wrap64 (Int.tdiv (p.length : Int) 5) = (out.length : Int) := by
    rw [h2, Int.natCast_mul, show ((5 : Nat) : Int) = 5 from rfl, Int.mul_tdiv_cancel_left _ (by omega)]
    exact w64 _ (by omega) (by omega)
   unfold r13_Decode.l0
   match l, hl with
   | [], _ =>
    rw [if_neg (by simp)]
    rfl
   | x :: t, hl =>
    rw [if_pos (by simp only [List.length_append, List.length_cons]; omega), if_pos (by simp only [List.length_append, List.length_cons] at *; rw [w64 _ (by omega) (by omega)]; omega), hdiv]
    match t, hl with
    | [], _ => rfl
    | [_], _ => rfl
    | [_, _], _ => rfl
    | [_, _, _], _ => rfl
    | _ :: _ :: _ :: _ :: _, h => exact absurd h (by simp only [List.length_cons]; omega)
  ·obtain ⟨a, b, c, d, e, t, rfl⟩ : ∃ a b c d e t, l = a :: b :: c :: d :: e :: t := by
    match l, hl with
    | a :: b :: c :: d :: e :: t, _ => exact ⟨a, b, c, d, e, t, rfl⟩
    | [], h => simp at h
    | [_], h => simp at h
    | [_, _], h => simp at h
    | [_, _, _], h => simp at h
    | [_, _, _, _], h => simp at h
   have ha := h4 a (by simp)
   have hb := h4 b (by simp)
   have hc := h4 c (by simp)
   have hd := h4 d (by simp)
   have he := h4 e (by simp)
   simp only [List.length_cons] at h1 h3
   have r0 := rd_app p (a :: b :: c :: d :: e :: t) 0
   have r1 := rd_app p (a :: b :: c :: d :: e :: t) 1
   have r2 := rd_app p (a :: b :: c :: d :: e :: t) 2
   have r3 := rd_app p (a :: b :: c :: d :: e :: t) 3
   have r4 := rd_app p (a :: b :: c :: d :: e :: t) 4
   rw [Nat.add_zero] at r0
   rw [show ((p.length + 1 : Nat) : Int) = (p.length : Int) + 1 by omega] at r1
   rw [show ((p.length + 2 : Nat) : Int) = (p.length : Int) + 2 by omega] at r2
   rw [show ((p.length + 3 : Nat) : Int) = (p.length : Int) + 3 by omega] at r3
   rw [show ((p.length + 4 : Nat) : Int) = (p.length : Int) + 4 by omega] at r4
   simp only [List.getD_cons_zero, List.getD_cons_succ] at r0 r1 r2 r3 r4
   have hlen : ((p ++ a :: b :: c :: d :: e :: t).length : Int) = (p.length : Int) + t.length + 5 := by simp only [List.length_append, List.length_cons]; omega
   have hnext : p ++ a :: b :: c :: d :: e :: t = (p ++ [a, b, c, d, e]) ++ t := by simp
   have step : r13_Decode.l0 (k + 2) (p ++ a :: b :: c :: d :: e :: t) out (p.length : Int) = r13_Decode.j1 (k + 1) (p ++ a :: b :: c :: d :: e :: t) out (p.length : Int) (isReal a) a (b + 256 * c) (d + 256 * e) := by
    rw [show k + 2 = (k + 1) + 1 from rfl]
    unfold r13_Decode.l0
    rw [hlen, w64 ((p.length : Int) + 1) (by omega) (by omega), w64 ((p.length : Int) + 2) (by omega) (by omega), w64 ((p.length : Int) + 3) (by omega) (by omega), w64 ((p.length : Int) + 4) (by omega) (by omega), w64 ((p.length : Int) + t.length + 5 - p.length) (by omega) (by omega), r0, r1, r2, r3, r4]
    rw [w64 a (by omega) (by omega), w64 b (by omega) (by omega), w64 c (by omega) (by omega), w64 d (by omega) (by omega), w64 e (by omega) (by omega), w64 (256 * c) (by omega) (by omega), w64 (256 * e) (by omega) (by omega), w64 (b + 256 * c) (by omega) (by omega), w64 (d + 256 * e) (by omega) (by omega)]
    rw [if_pos (by omega), if_neg (by omega), if_pos (by omega), if_pos (by omega), if_pos (by omega), if_pos (by omega), if_pos (by omega), if_pos (by omega), if_pos (by omega), if_pos (by omega), if_pos (by omega)]
    rw [real_is]
    by_cases h48 : a ≥ 48
    ·rw [if_pos h48, decide_eq_true (show 48 ≤ a from h48), Bool.true_and]
    ·rw [if_neg h48, decide_eq_false h48, Bool.false_and]
   rw [step]
   clear step r0 r1 r2 r3 r4 hlen
   have hdiv : wrap64 (Int.tdiv (p.length : Int) 5) = (out.length : Int) := by
    rw [h2, Int.natCast_mul, show ((5 : Nat) : Int) = 5 from rfl, Int.mul_tdiv_cancel_left _ (by omega)]
    exact w64 _ (by omega) (by omega)
   unfold r13_Decode.j1 decF
   rw [rright _ _ _ k (by omega), hdiv]
   clear hdiv
   unfold errI
   cases hr : isReal a
   ·rw [if_neg (by simp)]
    simp only [zP, Bool.false_eq_true, if_false]
    cases hq : right3 a (b + 256 * c) (d + 256 * e)
    ·simp only [Bool.false_eq_true, if_false]
     rw [if_neg (by decide)]
    ·simp only [if_true]
     rw [if_pos (by omega), w64 ((p.length : Int) + 5) (by omega) (by omega)]
     have hp : ((p ++ [a, b, c, d, e]).length : Int) = (p.length : Int) + 5 := by simp
     have := ih t (p ++ [a, b, c, d, e]) (out ++ [⟨a, b + 256 * c, d + 256 * e⟩]) k (by omega) (by simp; omega) (by simp; omega) (fun x hx => h4 x (by simp [hx])) (by omega)
     rw [hp, ← hnext] at this
     exact this
   ·simp only [if_true]
    rw [if_neg (by decide)]
theorem okB_of (l : List Int) (hz : l.length ≤ 1000000) (h : ∀ x ∈ l, 0 ≤ x ∧ x < 256) : okB l = true := by
 unfold okB
 simp only [Bool.and_eq_true, List.all_eq_true, decide_eq_true_eq]
 exact ⟨h, by omega⟩
end Go.Proofs.YtdbfgfgbjheibaaDoor.Pure
end

section
/- The units of a container as the program reads them; bytes of at most 1000000, the operations' table as the program lays it. -/
namespace Go.Proofs.YtdbfgfgbjheibaaDoor.Given
open Go Go.RowKit Go.Proofs.YtdbfgfgbjheibaaDoor Go.Proofs.YtdbfgfgbjheibaaDoorW.PrintWords Go.Proofs.YtdbfgfgbjheibaaDoorW.PrintLast Go.Proofs.YtdbfgfgbjheibaaDoorW.PrintMore
set_option linter.unusedVariables false
set_option linter.unusedSimpArgs false
abbrev SU := PBx.S48
def mkU (X : UD) : SU := ⟨X.1, X.2.1, X.2.2.1, X.2.2.2.1, X.2.2.2.2⟩
/-- The units, one by one: a code, these, where the reader is. -/
def unitsL (b : List Int) : Nat → Int → Bool → List SU → Int × List SU × Int × Bool
 | 0, at_, bad, out => (0, out, at_, bad)
 | n + 1, at_, bad, out =>
  if (runF b at_ bad).2.2 = true then (1, [], 0, false) else
  if ¬ (ugetR (runF b at_ bad).1).2 = 0 then ((ugetR (runF b at_ bad).1).2, [], 0, false) else
  unitsL b n (runF b at_ bad).2.1 false (out ++ [mkU (ugetR (runF b at_ bad).1).1])
def unitsR (b : List Int) : List SU × Int :=
 if (numR b 0 false 1).2.2 = true then ([], 1) else if (numR b 0 false 1).1 > 8 then ([], 5) else
 if ¬ (unitsL b (numR b 0 false 1).1.toNat (numR b 0 false 1).2.1 false []).1 = 0 then ([], (unitsL b (numR b 0 false 1).1.toNat (numR b 0 false 1).2.1 false []).1) else
 if (b.length : Int) - (unitsL b (numR b 0 false 1).1.toNat (numR b 0 false 1).2.1 false []).2.2.1 > 0 then ([], 4) else ((unitsL b (numR b 0 false 1).1.toNat (numR b 0 false 1).2.1 false []).2.1, 0)
theorem num1_range (b : List Int) (hb : okB b = true) : 0 ≤ (numR b 0 false 1).1 ∧ (numR b 0 false 1).1 < 256 := by
 unfold numR
 split
 ·have hm : mx 0 (mn 1 8) = 1 := by decide
  rw [hm]
  have hlen : (cutR b 0 1).length ≤ 1 := by unfold cutR; rw [zt]; exact Nat.le_trans (Nat.min_le_left _ _) (by decide)
  have h := leN_lim (cutR b 0 1) (fun x hx => (okB_all hb).1 x (List.mem_of_mem_drop (List.mem_of_mem_take hx)))
  have h2 : (2 : Int) ^ (8 * (cutR b 0 1).length) ≤ 256 := by
   have h3 : (cutR b 0 1).length = 0 ∨ (cutR b 0 1).length = 1 := by omega
   rcases h3 with h3 | h3 <;> rw [h3] <;> decide
  have e : wrap64 (leN (cutR b 0 1)) = leN (cutR b 0 1) := by unfold wrap64; omega
  dsimp only
  rw [e]
  omega
 ·exact ⟨Int.le_refl _, by decide⟩
/-- What the call tells. -/
def UPost (r : List SU × Int) (g : Nat) (W : World) (e : Ending) (w' : World) : Prop :=
 (r.2 = 0 ∧ (∃ v : Value, e = .returned v ∧ Kd.R PBx.k48 48 w' g (fun k => g < k) v r.1) ∧ Below g W w') ∨ (¬ r.2 = 0 ∧ e = .panicked [{ v := wrongV r.2, recovered := false }] ∧ Below g W w')
theorem laid_of {w0 W W2 : World} {g : Nat} (hL : LaidOps w0) (h : Below w0.heap.size w0 W) (h2 : Below g W W2) (hg : w0.heap.size ≤ g) : LaidOps W2 := hL.below (h.trans (h2.mono hg))
theorem unit_M {W : World} {base b2 : Nat} {cs : Array Value} {X : UD} (h : UOk W b2 cs X) (hb : base ≤ b2) : PBx.k48.M W base (fun k => b2 ≤ k) (mkU X) cs.toList := by
 obtain ⟨AP, cP, AL, cL, AC, cC, rfl, rP, rL, rC⟩ := h
 exact PBx.k48_mkM W base _ (mkU X) (Kd.R_lower (Kd.R_mono (Kd.R_bound rP) (fun k hk => hk.2.1)) hb) (Kd.R_lower (Kd.R_mono (Kd.R_bound rL) (fun k hk => hk.2.1)) hb) (Kd.R_lower (Kd.R_mono (Kd.R_bound rC) (fun k hk => hk.2.1)) hb)
set_option maxHeartbeats 4000000 in
set_option maxRecDepth 100000 in
theorem units_calls (w0 : World) (g : Nat) (W : World) (b : List Int) (h : RI W g b 0 false) (hb : okB b = true) (hl : b.length ≤ 1000000) (hL : LaidOps w0) (hB0 : Below w0.heap.size w0 W) (hg0 : w0.heap.size ≤ g) :
  Calls Tryd.prog 65 #[.pointer (some ⟨g, 0, none⟩)] W fun e w' => UPost (unitsR b) g W e w' := by
 have hi : (Tryd.prog.info? 48).map (·.size) = some 5 := by kernel_rfl
 have HO := zA hb
 have HLn := zA hl
 have HL := zA hL
 have HB0 := zA hB0
 have MB := zA (fun n (hn : ¬ n = 0) W => must_bad n hn W)
 have MO := zA (fun W => must_ok W)
 have HU := zA (fun W2 A c at_ bad (hC : Kd.C (Kd.int .u8) W2 A (runF b at_ bad).1.length (runF b at_ bad).1) hc (h2 : Below g W W2) => get_calls A c (runF b at_ bad).1 W2 hC hc (Nat.le_trans runF_len hl) (Pure.okB_of _ (Nat.le_trans runF_len hl) (fun x hx => (okB_all hb).1 x (runF_mem x hx))) (laid_of hL hB0 h2 hg0))
 have P1 := zA (num_i g W b 0 false 1 h hb)
 have hrg := num1_range b hb
 obtain ⟨r, hR⟩ : ∃ r, unitsR b = r := ⟨_, rfl⟩
 rw [hR]
 unfold unitsR at hR
 generalize numR b 0 false 1 = t at hR P1 hrg
 have HR := zA hR
 clear hb hR hL hB0 hl h
 go_enter Tryd.func65, Tryd.ntmps65
 go_wp2_with fail
 refine P1.out.mono ?_
 rintro e W3 ⟨rfl, h3, hk3, hb3⟩
 have H3 := zA (And.intro h3 hb3)
 clear h3 hk3 hb3 P1
 obtain ⟨n, at0, bad0⟩ := t
 simp only at hrg
 go_wp2_with fail
 refine (bad_i g W3 b _ _ H3.out.1).mono ?_
 rintro e W4 ⟨rfl, m4, rfl⟩
 cases bad0 with
 | true =>
  have hh := HR.out
  simp only [if_true] at hh
  subst hh
  go_wp2_with fail
  refine (MB.out 1 (by decide) _).mono ?_
  rintro e W5 ⟨rfl, rfl⟩
  exact ⟨rfl, .inr ⟨by decide, rfl, zN H3.out.2 m4⟩⟩
 | false =>
  have hh := HR.out
  simp only [Bool.false_eq_true, if_false] at hh
  by_cases hm : n > 8
  ·rw [if_pos hm] at hh
   subst hh
   go_wp2_with fail
   refine (MB.out 5 (by decide) _).mono ?_
   rintro e W5 ⟨rfl, rfl⟩
   exact ⟨rfl, .inr ⟨by decide, rfl, zN H3.out.2 m4⟩⟩
  ·rw [if_neg hm] at hh
   obtain ⟨u, hU⟩ : ∃ u, unitsL b n.toNat at0 false [] = u := ⟨_, rfl⟩
   rw [hU] at hh
   have HH := zA hh
   have HUL := zA hU
   have H4 := zA (And.intro (H3.out.1.drewN m4) (zN H3.out.2 m4))
   clear hh hU HR H3
   generalize W3.drewN m4 = W4 at H4 ⊢
   obtain ⟨N, rfl⟩ : ∃ N : Nat, n = (N : Int) := ⟨n.toNat, by omega⟩
   rw [Int.toNat_natCast] at HUL
   go_wp2_with fail
   go_loopw [4, 18] (fun ov iv wr => ∃ (j : Nat) (at_ : Int) (l : List SU), j ≤ N ∧ iv = .int .i64 (j : Int) ∧ Aside0 (l.length = j) ∧ Aside0 (Kd.R PBx.k48 48 wr g (fun k => g < k) ov l) ∧ Aside0 (RI wr g b at_ false ∧ Below g W wr) ∧ Aside0 (unitsL b (N - j) at_ false l = u)) (fun _ iv _ => N - (intOf iv).toNat)
   case atStart => exact ⟨0, _, [], Nat.zero_le _, rfl, ⟨rfl⟩, ⟨Kd.R_nil _ _ _ _ _⟩, H4, HUL⟩
   case round =>
    clear HUL H4
    obtain ⟨j, at_, l, hj, rfl, HLl, HV, HI, HUL⟩ := hrel
    obtain ⟨A2, c2, rfl, hl2, hC2⟩ := Kd.R_reads HV.out
    clear hC2 hl2
    by_cases hjn : j < N
    rotate_left
    ·have hu := HUL.out
     rw [show N - j = 0 by omega] at hu
     have HU2 := zA (show (0, l, at_, false) = u from hu)
     clear hu HUL
     have H5 := zA (left_i g wr b at_ HI.out.1)
     have hh := HH.out
     rw [← HU2.out] at hh
     dsimp only at hh
     rw [if_neg (by decide)] at hh
     by_cases hz : (b.length : Int) - at_ > 0
     ·rw [if_pos hz] at hh
      subst hh
      clear HH
      go_wp2_with fail
      refine H5.out.mono ?_
      rintro e W6 ⟨rfl, m6, rfl⟩
      go_wp2_with fail
      refine (MB.out 4 (by decide) _).mono ?_
      rintro e W7 ⟨rfl, rfl⟩
      exact ⟨rfl, .inr ⟨by decide, rfl, zN HI.out.2 m6⟩⟩
     ·rw [if_neg hz] at hh
      subst hh
      clear HH
      go_wp2_with fail
      refine H5.out.mono ?_
      rintro e W6 ⟨rfl, m6, rfl⟩
      go_wp2_with fail
      go_ret
      exact .inl ⟨rfl, ⟨_, rfl, zS HV.out m6⟩, zN HI.out.2 m6⟩
    ·have hu := HUL.out
     rw [show N - j = (N - (j + 1)) + 1 by omega] at hu
     unfold unitsL at hu
     have RO := zA (run_ok g wr b at_ false HI.out.1 HO.out)
     have RN := zA (run_no g wr b at_ false HI.out.1 HO.out)
     have HUX := zA (fun W2 A c => HU.out W2 A c at_ false)
     generalize runF b at_ false = x at hu RO RN HUX
     by_cases hx : x.2.2 = true
     ·rw [if_pos hx] at hu
      subst hu
      have hh := HH.out
      dsimp only at hh
      rw [if_pos (by decide)] at hh
      subst hh
      go_wp2_with fail
      refine (RN.out hx).mono ?_
      rintro e W5 ⟨rfl, hb5⟩
      exact ⟨rfl, .inr ⟨by decide, rfl, HI.out.2.trans hb5⟩⟩
     ·rw [if_neg hx] at hu
      have hx : x.2.2 = false := by simpa using hx
      have RX := zA (RO.out hx)
      clear RO RN HUL
      go_wp2_with fail
      refine RX.out.mono ?_
      rintro e W5 ⟨A, c, rfl, hC, hlc, h5, hk5, hb5⟩
      rw [hx] at h5
      have HI5 := zA (And.intro h5 (HI.out.2.trans hb5))
      have HV5 := zA (R_keep HV.out hk5)
      have HG5 := zA (HUX.out W5 A c hC hlc HI5.out.2)
      clear h5 hk5 hb5 HI HV RX hC hlc
      go_wp2_with fail
      refine HG5.out.mono ?_
      rintro e W6 ⟨cs, rfl, hcs, hb6⟩
      clear HG5 HUX
      unfold GetPost at *
      generalize ugetR x.1 = U at hu hcs
      have hm6 := unit_M hcs (show g ≤ W5.heap.size from Nat.le_of_lt HI5.out.1.ltS)
      obtain ⟨AP, cP, AL, cL, AC, cC, rfl, _⟩ := hcs
      have hz := heap_alloc_new W6 (.cells #[.string ⟨#[]⟩, .slice none 0 0, .int .i64 0, .slice none 0 0, .slice none 0 0] 48)
      have hg7 := setRow_heap _ _ _ #[.string U.1.1, .slice AP U.1.2.1.length cP, .int .i64 U.1.2.2.1, .slice AL U.1.2.2.2.1.length cL, .slice AC U.1.2.2.2.2.length cC] _ _ hz
      have hB7 := below_setRow ((zX W6.heap.size W6).alloc (z5 _) (.cells #[.string ⟨#[]⟩, .slice none 0 0, .int .i64 0, .slice none 0 0, .slice none 0 0] 48)) (z5 W6.heap.size) #[.string U.1.1, .slice AP U.1.2.1.length cP, .int .i64 U.1.2.2.1, .slice AL U.1.2.2.2.1.length cL, .slice AC U.1.2.2.2.2.length cC]
      have hb7 := hb6.trans (hB7.mono hb6.size)
      have HI7 := zA (And.intro (HI5.out.1.below hb7) (HI5.out.2.trans (hb7.mono (Nat.le_of_lt HI5.out.1.ltS))))
      have HV7 := zA (Kd.R_below HV5.out hb7)
      have HM7 := zA (Kd.M_below hm6 hB7)
      have HG7 := zA hg7
      have HZ := zA hz
      have HW5 := zA (And.intro (show ∀ k, (Value.slice A2 l.length c2).ownBlock = some k → k < W5.heap.size from Kd.R_lt HV5.out) HI5.out.1.ltS)
      clear hm6 hz hg7 hB7 hb7 hb6 HI5 HV5
      by_cases hu0 : U.2 = 0
      rotate_left
      ·rw [if_pos hu0] at hu
       subst hu
       have hh := HH.out
       dsimp only at hh
       rw [if_pos hu0] at hh
       subst hh
       go_wp2_with ((with_reducible refine gate_store (t := 48) (p := 5) (v := .tmp 24) rfl ?_); refine wpList_store_row rfl 48 (.tmp 5) (.tmp 24) rfl W6.heap.size #[.string U.1.1, .slice AP U.1.2.1.length cP, .int .i64 U.1.2.2.1, .slice AL U.1.2.2.2.1.length cL, .slice AC U.1.2.2.2.2.length cC] rfl rfl 48 _ HZ.out (by rw [hi]; rfl) rfl (by kernel_rfl) ?_)
       refine (MB.out U.2 hu0 _).mono ?_
       rintro e W8 ⟨rfl, rfl⟩
       exact ⟨rfl, .inr ⟨hu0, rfl, HI7.out.2⟩⟩
      ·rw [if_neg (by simp [hu0])] at hu
       have HU2 := zA hu
       clear hu
       rw [hu0]
       go_wp2_with ((with_reducible refine gate_store (t := 48) (p := 5) (v := .tmp 24) rfl ?_); refine wpList_store_row rfl 48 (.tmp 5) (.tmp 24) rfl W6.heap.size #[.string U.1.1, .slice AP U.1.2.1.length cP, .int .i64 U.1.2.2.1, .slice AL U.1.2.2.2.1.length cL, .slice AC U.1.2.2.2.2.length cC] rfl rfl 48 _ HZ.out (by rw [hi]; rfl) rfl (by kernel_rfl) ?_)
       refine (MO.out _).mono ?_
       rintro e W8 ⟨rfl, hW8⟩
       rw [← hW8] at HI7 HV7 HM7 HG7
       clear hW8 HZ
       go_wp2_with (first
        | ((with_reducible refine gate_dst (N := 29) rfl ?_); refine wpList_load_row rfl 48 (.tmp 5) rfl W6.heap.size rfl 48 _ (0, 0) _ HG7.out Tryd.underlying48 rfl (by rw [hi]; rfl) ?_)
        | ((with_reducible refine gate_builtin (b := .append) (xs := #[.tmp 28, .tmp 30]) rfl ?_); at_builtin; refine Kd.R_append PBx.k48 (w0 := W) g rfl (.tmp 28) (.tmp 30) 25 48 (.agg #[.string ⟨#[]⟩, .slice none 0 0, .int .i64 0, .slice none 0 0, .slice none 0 0]) 96 rfl Tryd.underlying25 (by kernel_rfl) rfl (by decide) (by omega) (.slice A2 l.length c2) l (mkU U.1) [.string U.1.1, .slice AP U.1.2.1.length cP, .int .i64 U.1.2.2.1, .slice AL U.1.2.2.2.1.length cL, .slice AC U.1.2.2.2.2.length cC] (fun k => g < k) (fun k => W5.heap.size ≤ k) rfl (by first | (go_simp; done) | (go_simp; rfl)) ?aP ?aK ?aF ?aO ?aB ?aS ?aL ?_; (case aP => exact HM7.out); (case aK => exact fun k hk => ⟨Nat.lt_of_lt_of_le HW5.out.2 hk, fun e => absurd (HW5.out.1 k e.symm) (by omega)⟩); (case aB => exact HI7.out.2); (case aF => exact fun k hk => Nat.lt_of_lt_of_le HI7.out.1.ltS hk); (case aO => exact HV7.out); (case aS => exact Nat.le_of_lt HI7.out.1.ltS); (case aL => have := HLl.out; omega); intro v7 W9 ho7 hb7 hg7 hat7; have HI9 := zA (And.intro (HI7.out.1.grown hg7 (fun k e => HV7.out.1 k e)) hb7); have HV9 := zA ho7; clear hg7 hat7 ho7 hb7))
       refine ⟨⟨j + 1, _, l ++ [mkU U.1], by omega, by push_cast; rfl, ⟨by rw [List.length_append, HLl.out]; rfl⟩, HV9, HI9, HU2⟩, ?_⟩
       rw [show intOf (.int .i64 ((j : Int) + 1)) = (j : Int) + 1 from rfl, show intOf (.int .i64 (j : Int)) = (j : Int) from rfl]
       omega
end Go.Proofs.YtdbfgfgbjheibaaDoor.Given
end

section
/- What bytes say as a container, plainly: a code, and a program's lists. -/
namespace Go.Proofs.YtdbfgfgbjheibaaDoor.Given
open Go Go.RowKit Go.Proofs.YtdbfgfgbjheibaaDoor Go.Proofs.YtdbfgfgbjheibaaDoorW.PrintWords Go.Proofs.YtdbfgfgbjheibaaDoorW.PrintLast Go.Proofs.YtdbfgfgbjheibaaDoorW.PrintMore
set_option linter.unusedVariables false
abbrev PD := List SC × List SV × List SB × List SU
def noP : PD := ([], [], [], [])
def readC4 (c : List Int) (C : List SC) (V : List SV) (B : List SB) (a : Int) : Int × PD :=
 if ¬ (takeS c a 4).1 = 0 then ((takeS c a 4).1, noP) else
 if ¬ (unitsR (takeS c a 4).2.1).2 = 0 then ((unitsR (takeS c a 4).2.1).2, noP) else
 if (c.length : Int) - (takeS c a 4).2.2 > 0 then (4, noP) else (0, (C, V, B, (unitsR (takeS c a 4).2.1).1))
def readC3 (c : List Int) (C : List SC) (V : List SV) (a : Int) : Int × PD :=
 if ¬ (takeS c a 3).1 = 0 then ((takeS c a 3).1, noP) else
 if ¬ (getR blkR 32 (takeS c a 3).2.1).2 = 0 then ((getR blkR 32 (takeS c a 3).2.1).2, noP) else
 readC4 c C V (getR blkR 32 (takeS c a 3).2.1).1 (takeS c a 3).2.2
def readC2 (c : List Int) (C : List SC) (a : Int) : Int × PD :=
 if ¬ (takeS c a 2).1 = 0 then ((takeS c a 2).1, noP) else
 if ¬ (getR varR 64 (takeS c a 2).2.1).2 = 0 then ((getR varR 64 (takeS c a 2).2.1).2, noP) else
 readC3 c C (getR varR 64 (takeS c a 2).2.1).1 (takeS c a 2).2.2
def readC1 (c : List Int) (a : Int) : Int × PD :=
 if ¬ (takeS c a 1).1 = 0 then ((takeS c a 1).1, noP) else
 if ¬ (getR conR 1024 (takeS c a 1).2.1).2 = 0 then ((getR conR 1024 (takeS c a 1).2.1).2, noP) else
 readC2 c (getR conR 1024 (takeS c a 1).2.1).1 (takeS c a 1).2.2
def magicB (l : List Int) : Bool := (strOfNums (l.take 4)).toList == ([76, 66, 75, 49] : List UInt8)
def bodyOf (l : List Int) : List Int := (l.take (l.length - 4)).drop 4
def readF (l : List Int) : Int × PD :=
 if l.length > 1048576 then (5, noP) else if l.length < 8 then (1, noP) else
 if magicB l = false then (2, noP) else
 if ¬ (numR (l.drop (l.length - 4)) 0 false 4).1 = 4294967295 - overF 4294967295 (l.take (l.length - 4)) then (3, noP) else readC1 (bodyOf l) 0
theorem takeS_mem {c : List Int} {a k : Int} : ∀ x ∈ (takeS c a k).2.1, x ∈ c := by
 intro x hx
 unfold takeS at hx
 split at hx
 ·cases hx
 ·split at hx
  ·cases hx
  ·split at hx
   ·cases hx
   ·exact runF_mem x hx
theorem takeS_len {c : List Int} {a k : Int} : (takeS c a k).2.1.length ≤ c.length := by
 unfold takeS
 split
 ·simp
 ·split
  ·simp
  ·split
   ·simp
   ·exact runF_len
theorem takeS_ok {c : List Int} {a k : Int} (hb : okB c = true) (hl : c.length ≤ 1000000) : okB (takeS c a k).2.1 = true := Pure.okB_of _ (Nat.le_trans takeS_len hl) (fun x hx => (okB_all hb).1 x (takeS_mem x hx))
theorem read4 {c : List Int} {C : List SC} {V : List SV} {B : List SB} {a : Int} {t : Int × List Int × Int} {u : List SU × Int} (ht : takeS c a 4 = t) (hu : unitsR t.2.1 = u) : readC4 c C V B a = if ¬ t.1 = 0 then (t.1, noP) else if ¬ u.2 = 0 then (u.2, noP) else if (c.length : Int) - t.2.2 > 0 then (4, noP) else (0, (C, V, B, u.1)) := by subst ht hu; rfl
theorem read3 {c : List Int} {C : List SC} {V : List SV} {a : Int} {t : Int × List Int × Int} {u : List SB × Int} (ht : takeS c a 3 = t) (hu : getR blkR 32 t.2.1 = u) : readC3 c C V a = if ¬ t.1 = 0 then (t.1, noP) else if ¬ u.2 = 0 then (u.2, noP) else readC4 c C V u.1 t.2.2 := by subst ht hu; rfl
theorem read2 {c : List Int} {C : List SC} {a : Int} {t : Int × List Int × Int} {u : List SV × Int} (ht : takeS c a 2 = t) (hu : getR varR 64 t.2.1 = u) : readC2 c C a = if ¬ t.1 = 0 then (t.1, noP) else if ¬ u.2 = 0 then (u.2, noP) else readC3 c C u.1 t.2.2 := by subst ht hu; rfl
theorem read1 {c : List Int} {a : Int} {t : Int × List Int × Int} {u : List SC × Int} (ht : takeS c a 1 = t) (hu : getR conR 1024 t.2.1 = u) : readC1 c a = if ¬ t.1 = 0 then (t.1, noP) else if ¬ u.2 = 0 then (u.2, noP) else readC2 c u.1 t.2.2 := by subst ht hu; rfl
end Go.Proofs.YtdbfgfgbjheibaaDoor.Given
end
