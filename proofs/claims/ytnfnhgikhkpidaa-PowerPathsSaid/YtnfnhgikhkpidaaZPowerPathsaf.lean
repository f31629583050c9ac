/- The law PowerPaths holds for every input: the walk over its code shows that the call returns true and that what was read stays as it was; the row follows. -/
import Derived.Test.YtnfnhgikhkpidaaRows
import Derived.WalkKit
import Derived.ProofKit
import Derived.OpenShut
import Derived.ShutString
import Derived.ChangeOld
import Derived.Below
import Derived.SizedLaws
import Derived.Test.YtnfnhgikhkpidaaZPowerPathsaa
import Derived.Test.YtnfnhgikhkpidaaZPowerPathsab
import Derived.Test.YtnfnhgikhkpidaaZPowerPathsad
import Derived.Test.YtnfnhgikhkpidaaZPowerPathsae
section
/- Printed by a program of this session (wip/pg.py, over the print of the kit): functions, their Lean twins, and the proofs that the calls come to them; each under the conditions that it names. -/
namespace Go.Proofs.Ytnfnhgikhkpidaa.PPw
open Go.Proofs.Ytnfnhgikhkpidaa.Given
open Go.RowKit Go.Proofs.YtnfnhgikhkpidaaW.PrintWords Go.Proofs.YtnfnhgikhkpidaaW.PrintLast Go.Proofs.YtnfnhgikhkpidaaW.PrintMore
attribute [local go_sem] max2_int min2_int max_two min_two max_three min_three max_four min_four   -- for this text's walks alone
set_option linter.unusedVariables false
set_option linter.unusedSimpArgs false

/-! ### ladderbackref45_Path: function 27 -/
mutual
def ladderbackref45_Path.l0 : Nat → List (S40) → List Bool → Int → Int → List Bool → Int → Option (Bool × List Bool)
  | 0, _, _, _, _, _, _ => none
  | k + 1, x0, x1, x2, x3, x4, x11 => if x11 < (x0.length : Int) then (ladderbackref45_Path.j1 k x0 x1 x2 x3 x4 x11 (decide (x11 < (x1.length : Int)))) else (ladderbackref45_Path.j1 k x0 x1 x2 x3 x4 x11 false)
def ladderbackref45_Path.j1 : Nat → List (S40) → List Bool → Int → Int → List Bool → Int → Bool → Option (Bool × List Bool)
  | 0, _, _, _, _, _, _, _ => none
  | k + 1, x0, x1, x2, x3, x4, x11, x25 => if x25 = true then (if 0 ≤ x11 then (if x11 < (x1.length : Int) then (if rdOf false x1 x11 = true then (if x11 < (x4.length : Int) then (if rdOf false x4 x11 = true then (ladderbackref45_Path.j2 k x0 x1 x2 x3 x4 x11 true) else (if x11 < (x0.length : Int) then (if ((rd_T40 x0 x11).f0) = x2 then (ladderbackref45_Path.j2 k x0 x1 x2 x3 x4 x11 false) else (ladderbackref45_Path.j2 k x0 x1 x2 x3 x4 x11 (((rd_T40 x0 x11).f1) != x2))) else (none))) else (none)) else (ladderbackref45_Path.j2 k x0 x1 x2 x3 x4 x11 true)) else (none)) else (none)) else (some (false, x4))
def ladderbackref45_Path.j2 : Nat → List (S40) → List Bool → Int → Int → List Bool → Int → Bool → Option (Bool × List Bool)
  | 0, _, _, _, _, _, _, _ => none
  | k + 1, x0, x1, x2, x3, x4, x11, x56 => if x56 = true then (ladderbackref45_Path.l0 k x0 x1 x2 x3 x4 (wrap64 (x11 + 1))) else (if 0 ≤ x11 then (if x11 < (x0.length : Int) then (if ((rd_T40 x0 x11).f1) = x2 then (if x11 < (x4.length : Int) then ((ladderbackref45_Path.f k x0 x1 ((rd_T40 x0 x11).f0) x3 (x4.set (x11 : Int).toNat true)).bind fun bt167 => (if bt167.1 = true then (some (true, bt167.2)) else (ladderbackref45_Path.l0 k x0 x1 x2 x3 bt167.2 (wrap64 (x11 + 1))))) else (none)) else (if x11 < (x4.length : Int) then ((ladderbackref45_Path.f k x0 x1 ((rd_T40 x0 x11).f1) x3 (x4.set (x11 : Int).toNat true)).bind fun bt170 => (if bt170.1 = true then (some (true, bt170.2)) else (ladderbackref45_Path.l0 k x0 x1 x2 x3 bt170.2 (wrap64 (x11 + 1))))) else (none))) else (none)) else (none))
def ladderbackref45_Path.f : Nat → List (S40) → List Bool → Int → Int → List Bool → Option (Bool × List Bool)
  | 0, _, _, _, _, _ => none
  | k + 1, l0, l1, a2, a3, l4 => if a2 = a3 then (some (true, l4)) else (ladderbackref45_Path.l0 k l0 l1 a2 a3 l4 0)
end
set_option maxHeartbeats 8000000 in
set_option maxRecDepth 100000 in
theorem ladderbackref45_Path.calls (k : Nat) : ∀ (A0 : Option Addr) (c0 : Nat) (l0 : List (S40)) (A1 : Option Addr) (c1 : Nat) (l1 : List Bool) (a2 : Int) (a3 : Int) (P4_ : Nat → Prop) (u9000_ : Value) (l4 : List Bool) (r1 : Bool) (r2 : List Bool) (w0 w : World) (hB : Below w0.heap.size w0 w) (hr0 : ∀ W_, Kept w W_ (fun k_ => P4_ k_) → Kd.C k40 W_ A0 l0.length l0) (hc0 : l0.length ≤ c0) (hr1 : ∀ W_, Kept w W_ (fun k_ => P4_ k_) → Kd.C Kd.bool W_ A1 l1.length l1) (hc1 : l1.length ≤ c1) (ho4 : Kd.R Kd.bool 4 w w0.heap.size P4_ u9000_ l4) (h : ladderbackref45_Path.f k l0 l1 a2 a3 l4 = some (r1, r2)),
    Calls Try.prog 27 #[.slice A0 l0.length c0, .slice A1 l1.length c1, .int .i64 a2, .int .i64 a3, u9000_] w fun e w' => e = .returned (.bool r1) ∧ Kd.R Kd.bool 4 w' w0.heap.size (fun k_ => (P4_ k_ ∨ w.heap.size ≤ k_)) u9000_ r2 ∧ Below w0.heap.size w0 w' ∧ Kept w w' (fun k_ => P4_ k_) := by
  induction k using Nat.strongRecOn with
  | _ k ih =>
  intro A0 c0 l0 A1 c1 l1 a2 a3 P4_ u9000_ l4 r1 r2 w0 w hB hr0 hc0 hr1 hc1 ho4 h
  cases k with
  | zero => exact absurd h (by simp [ladderbackref45_Path.f])
  | succ k =>
  simp only [ladderbackref45_Path.f] at h
  have HR0 := Aside0.mk hr0
  have HC0 := Aside0.mk hc0
  clear hr0 hc0
  have HR1 := Aside0.mk hr1
  have HC1 := Aside0.mk hc1
  clear hr1 hc1
  have HO4 := Aside0.mk (show Kd.R Kd.bool 4 w w0.heap.size (fun k_ => (P4_ k_ ∨ w.heap.size ≤ k_)) u9000_ l4 from Kd.R_mono ho4 (fun k_ hk => (.inl hk)))
  have HK := Aside0.mk (Kept.refl w (fun k_ => P4_ k_))
  have HW0 := Aside0.mk hB.size
  have HB := Aside0.mk hB
  clear hB
  have H : (if a2 = a3 then (some (true, l4)) else (ladderbackref45_Path.l0 k l0 l1 a2 a3 l4 0)) = some (r1, r2) := h
  clear h
  by_cases c6 : a2 = a3
  · rw [if_pos c6] at H
    have c6b0 : (a2 == a3) = true := beq_iff_eq.mpr c6
    have c6b1 : (a2 != a3) = false := bne_eq_false_iff_eq.mpr c6
    clear c6
    simp only [Option.some.injEq, Prod.mk.injEq] at H
    obtain ⟨rfl, rfl⟩ := H
    go_enter Try.func27, Try.ntmps27
    go_wp2
    go_ret
    exact ⟨by first | rfl | (simp [errW_none, errW_some] <;> rfl) | (simp [*, errW_none, errW_some] <;> rfl), by (with_reducible repeat (first | apply Kd.R_alloc | apply Kd.R_drewN | apply Kd.R_drew)); exact HO4.out, by repeat (first | (with_reducible first | exact HB.out | apply below_alloc | apply pw_below_drewN | apply below_drew1) | exact HB.out), by repeat (first | (with_reducible first | exact HK.out | apply Kept.alloc | apply Kept.drewN | apply Kept.drew) | exact HK.out)⟩
  · rw [if_neg c6] at H
    have c6b0 : (a2 == a3) = false := beq_eq_false_iff_ne.mpr c6
    have c6b1 : (a2 != a3) = true := bne_iff_ne.mpr c6
    have H' := Aside0.mk H
    clear H
    go_enter Try.func27, Try.ntmps27
    go_wp2
    go_loopg [11] k (fun kq v11 w' => ∃ (x4_1 : List Bool) (x11_1 : Int), v11 = .int .i64 x11_1 ∧ Aside0 (ladderbackref45_Path.l0 kq l0 l1 a2 a3 x4_1 x11_1 = some (r1, r2)) ∧ Aside0 (kq ≤ k) ∧ Aside0 (Kd.R Kd.bool 4 w' w0.heap.size (fun k_ => (P4_ k_ ∨ w.heap.size ≤ k_)) u9000_ x4_1) ∧ Aside0 (Kept w w' (fun k_ => P4_ k_)) ∧ Aside0 (Below w0.heap.size w0 w'))
    case atStart => exact ⟨(l4), (0), (by first | rfl | (simp; done) | (simp [*]; done)), H', ⟨Nat.le_refl _⟩, ⟨by (with_reducible repeat (first | apply Kd.R_alloc | apply Kd.R_drewN | apply Kd.R_drew)); exact HO4.out⟩, ⟨by repeat (first | (with_reducible first | exact HK.out | apply Kept.alloc | apply Kept.drewN | apply Kept.drew) | exact HK.out)⟩, ⟨by repeat (first | (with_reducible first | exact HB.out | apply below_alloc | apply pw_below_drewN | apply below_drew1) | exact HB.out)⟩⟩
    case round =>
      clear H'
      try clear c1
      try clear c2
      try clear p2
      try clear c6
      try clear c6b0
      try clear c6b1
      obtain ⟨x4_1, x11_1, rfl, HA, HK1, HO_4, HK, HB⟩ := hrel
      cases gk with
      | zero => exact absurd HA.out (by simp [ladderbackref45_Path.l0])
      | succ k1 =>
        have H := HA.out
        clear HA
        simp only [ladderbackref45_Path.l0] at H
        have HC7 := Aside0.mk H
        clear H
        go_upto_region 4 with (fail)
        go_cut [25] (fun v25 wc => ∃ (kq : Nat) (x25_6 : Bool), v25 = .bool x25_6 ∧ Aside0 (ladderbackref45_Path.j1 kq l0 l1 a2 a3 x4_1 x11_1 x25_6 = some (r1, r2)) ∧ Aside0 (kq ≤ k1) ∧ Aside0 (Kd.R Kd.bool 4 wc w0.heap.size (fun k_ => (P4_ k_ ∨ w.heap.size ≤ k_)) u9000_ x4_1) ∧ Aside0 (Kept w wc (fun k_ => P4_ k_)) ∧ Aside0 (Below w0.heap.size w0 wc))
        case first =>
          have H := HC7.out
          clear HC7
          by_cases c8 : x11_1 < (l0.length : Int)
          · rw [if_pos c8] at H
            have c8b0 : decide (x11_1 < (l0.length : Int)) = true := decide_eq_true c8
            clear c8
            (first | rw [c8b0] | (simp only [i64_w, i32_w]; rw [c8b0]) | skip)
            have H' := Aside0.mk H
            clear H
            go_wp2
            go_meet
            case rel => exact ⟨_, (decide (x11_1 < (l1.length : Int))), (by first | rfl | (simp; done) | (simp [*]; done)), H', ⟨by have := HK1.out; first | omega | exact Nat.le_refl _⟩, ⟨by (with_reducible repeat (first | apply Kd.R_alloc | apply Kd.R_drewN | apply Kd.R_drew)); exact HO_4.out⟩, ⟨by repeat (first | (with_reducible first | exact HK.out | apply Kept.alloc | apply Kept.drewN | apply Kept.drew) | exact HK.out)⟩, ⟨by repeat (first | (with_reducible first | exact HB.out | apply below_alloc | apply pw_below_drewN | apply below_drew1) | exact HB.out)⟩⟩
          · rw [if_neg c8] at H
            have c8b0 : decide (x11_1 < (l0.length : Int)) = false := decide_eq_false c8
            clear c8
            (first | rw [c8b0] | (simp only [i64_w, i32_w]; rw [c8b0]) | skip)
            have H' := Aside0.mk H
            clear H
            go_wp2
            go_meet
            case rel => exact ⟨_, (false), (by first | rfl | (simp; done) | (simp [*]; done)), H', ⟨by have := HK1.out; first | omega | exact Nat.le_refl _⟩, ⟨by (with_reducible repeat (first | apply Kd.R_alloc | apply Kd.R_drewN | apply Kd.R_drew)); exact HO_4.out⟩, ⟨by repeat (first | (with_reducible first | exact HK.out | apply Kept.alloc | apply Kept.drewN | apply Kept.drew) | exact HK.out)⟩, ⟨by repeat (first | (with_reducible first | exact HB.out | apply below_alloc | apply pw_below_drewN | apply below_drew1) | exact HB.out)⟩⟩
        case rest =>
          clear HC7
          try clear c1
          try clear c2
          try clear p2
          try clear c6
          try clear c6b0
          try clear c6b1
          try clear c8
          try clear c8b0
          try clear p2
          obtain ⟨kq, x25_6, rfl, HA, HJ6, HO_4, HK, HB⟩ := hcut
          cases kq with
          | zero => exact absurd HA.out (by simp [ladderbackref45_Path.j1])
          | succ kj6 =>
            have H := HA.out
            clear HA
            simp only [ladderbackref45_Path.j1] at H
            by_cases c9 : x25_6 = true
            · subst c9
              have H1 : (if 0 ≤ x11_1 then (if x11_1 < (l1.length : Int) then (if rdOf false l1 x11_1 = true then (if x11_1 < (x4_1.length : Int) then (if rdOf false x4_1 x11_1 = true then (ladderbackref45_Path.j2 kj6 l0 l1 a2 a3 x4_1 x11_1 true) else (if x11_1 < (l0.length : Int) then (if ((rd_T40 l0 x11_1).f0) = a2 then (ladderbackref45_Path.j2 kj6 l0 l1 a2 a3 x4_1 x11_1 false) else (ladderbackref45_Path.j2 kj6 l0 l1 a2 a3 x4_1 x11_1 (((rd_T40 l0 x11_1).f1) != a2))) else (none))) else (none)) else (ladderbackref45_Path.j2 kj6 l0 l1 a2 a3 x4_1 x11_1 true)) else (none)) else (none)) = some (r1, r2) := by rw [if_pos rfl] at H; exact H
              clear H
              have H := H1
              clear H1
              have HC10 := Aside0.mk H
              clear H
              go_upto_region 6 with (fail)
              go_cut [56] (fun v56 wc => ∃ (kq : Nat) (x56_9 : Bool), v56 = .bool x56_9 ∧ Aside0 (ladderbackref45_Path.j2 kq l0 l1 a2 a3 x4_1 x11_1 x56_9 = some (r1, r2)) ∧ Aside0 (kq ≤ kj6) ∧ Aside0 (Kd.R Kd.bool 4 wc w0.heap.size (fun k_ => (P4_ k_ ∨ w.heap.size ≤ k_)) u9000_ x4_1) ∧ Aside0 (Kept w wc (fun k_ => P4_ k_)) ∧ Aside0 (Below w0.heap.size w0 wc))
              case first =>
                have H := HC10.out
                clear HC10
                by_cases c11 : 0 ≤ x11_1
                · rw [if_pos c11] at H
                  have c11b0 : decide (0 ≤ x11_1) = true := decide_eq_true c11
                  clear c11
                  (first | rw [c11b0] | (simp only [i64_w, i32_w]; rw [c11b0]) | skip)
                  by_cases c12 : x11_1 < (l1.length : Int)
                  · rw [if_pos c12] at H
                    have c12b0 : decide (x11_1 < (l1.length : Int)) = true := decide_eq_true c12
                    clear c12
                    obtain ⟨bq13, hbq13⟩ : ∃ b_ : Bool, b_ = (rdOf false l1 x11_1) := ⟨_, rfl⟩
                    replace H : (if bq13 = true then (if x11_1 < (x4_1.length : Int) then (if rdOf false x4_1 x11_1 = true then (ladderbackref45_Path.j2 kj6 l0 l1 a2 a3 x4_1 x11_1 true) else (if x11_1 < (l0.length : Int) then (if ((rd_T40 l0 x11_1).f0) = a2 then (ladderbackref45_Path.j2 kj6 l0 l1 a2 a3 x4_1 x11_1 false) else (ladderbackref45_Path.j2 kj6 l0 l1 a2 a3 x4_1 x11_1 (((rd_T40 l0 x11_1).f1) != a2))) else (none))) else (none)) else (ladderbackref45_Path.j2 kj6 l0 l1 a2 a3 x4_1 x11_1 true)) = some (r1, r2) := by rw [← hbq13] at H; exact H
                    have Nbq13 := Aside0.mk hbq13
                    clear hbq13
                    by_cases c14 : bq13 = true
                    · subst c14
                      have H1 : (if x11_1 < (x4_1.length : Int) then (if rdOf false x4_1 x11_1 = true then (ladderbackref45_Path.j2 kj6 l0 l1 a2 a3 x4_1 x11_1 true) else (if x11_1 < (l0.length : Int) then (if ((rd_T40 l0 x11_1).f0) = a2 then (ladderbackref45_Path.j2 kj6 l0 l1 a2 a3 x4_1 x11_1 false) else (ladderbackref45_Path.j2 kj6 l0 l1 a2 a3 x4_1 x11_1 (((rd_T40 l0 x11_1).f1) != a2))) else (none))) else (none)) = some (r1, r2) := by rw [if_pos rfl] at H; exact H
                      clear H
                      have H := H1
                      clear H1
                      by_cases c15 : x11_1 < (x4_1.length : Int)
                      · rw [if_pos c15] at H
                        have c15b0 : decide (x11_1 < (x4_1.length : Int)) = true := decide_eq_true c15
                        clear c15
                        obtain ⟨bq16, hbq16⟩ : ∃ b_ : Bool, b_ = (rdOf false x4_1 x11_1) := ⟨_, rfl⟩
                        replace H : (if bq16 = true then (ladderbackref45_Path.j2 kj6 l0 l1 a2 a3 x4_1 x11_1 true) else (if x11_1 < (l0.length : Int) then (if ((rd_T40 l0 x11_1).f0) = a2 then (ladderbackref45_Path.j2 kj6 l0 l1 a2 a3 x4_1 x11_1 false) else (ladderbackref45_Path.j2 kj6 l0 l1 a2 a3 x4_1 x11_1 (((rd_T40 l0 x11_1).f1) != a2))) else (none))) = some (r1, r2) := by rw [← hbq16] at H; exact H
                        have Nbq16 := Aside0.mk hbq16
                        clear hbq16
                        by_cases c17 : bq16 = true
                        · subst c17
                          have H1 : (ladderbackref45_Path.j2 kj6 l0 l1 a2 a3 x4_1 x11_1 true) = some (r1, r2) := by rw [if_pos rfl] at H; exact H
                          clear H
                          have H := H1
                          clear H1
                          have H' := Aside0.mk H
                          clear H
                          have p160 : 0 ≤ (x11_1 : Int) := of_decide_eq_true (by first | (with_reducible assumption) | assumption)
                          have q160 : x11_1 < (l1.length : Int) := of_decide_eq_true (by first | (with_reducible assumption) | assumption)
                          obtain ⟨ad160, e160, hx160_0⟩ := Kd.at_bool (Kd.C_kept_now HR1.out HK.out) x11_1 p160 q160
                          (try rw [← Nbq13.out] at hx160_0)
                          (try rw [← Nbq16.out] at hx160_0)
                          cases e160
                          replace p160 := eq_true p160
                          replace q160 := eq_true q160
                          obtain ⟨Ao18, co18, eo18⟩ := Kd.R_slice HO_4.out
                          subst eo18
                          have p161 : 0 ≤ (x11_1 : Int) := of_decide_eq_true (by first | (with_reducible assumption) | assumption)
                          have q161 : x11_1 < (x4_1.length : Int) := of_decide_eq_true (by first | (with_reducible assumption) | assumption)
                          obtain ⟨ad161, e161, hx161_0⟩ := Kd.at_bool (Kd.R_reads' HO_4.out).2.2 x11_1 p161 q161
                          (try rw [← Nbq13.out] at hx161_0)
                          (try rw [← Nbq16.out] at hx161_0)
                          cases e161
                          replace p161 := eq_true p161
                          replace q161 := eq_true q161
                          go_wp2
                          go_meet
                          case rel => exact ⟨_, (true), (by first | rfl | (simp; done) | (simp [*]; done)), H', ⟨by have := HK1.out; have := HJ6.out; first | omega | exact Nat.le_refl _⟩, ⟨by (with_reducible repeat (first | apply Kd.R_alloc | apply Kd.R_drewN | apply Kd.R_drew)); exact HO_4.out⟩, ⟨by repeat (first | (with_reducible first | exact HK.out | apply Kept.alloc | apply Kept.drewN | apply Kept.drew) | exact HK.out)⟩, ⟨by repeat (first | (with_reducible first | exact HB.out | apply below_alloc | apply pw_below_drewN | apply below_drew1) | exact HB.out)⟩⟩
                        · replace c17 := Bool.eq_false_iff.mpr c17
                          subst c17
                          have H1 : (if x11_1 < (l0.length : Int) then (if ((rd_T40 l0 x11_1).f0) = a2 then (ladderbackref45_Path.j2 kj6 l0 l1 a2 a3 x4_1 x11_1 false) else (ladderbackref45_Path.j2 kj6 l0 l1 a2 a3 x4_1 x11_1 (((rd_T40 l0 x11_1).f1) != a2))) else (none)) = some (r1, r2) := by rw [if_neg (show ¬ (false = true) by decide)] at H; exact H
                          clear H
                          have H := H1
                          clear H1
                          by_cases c19 : x11_1 < (l0.length : Int)
                          · rw [if_pos c19] at H
                            have c19b0 : decide (x11_1 < (l0.length : Int)) = true := decide_eq_true c19
                            clear c19
                            by_cases c20 : ((rd_T40 l0 x11_1).f0) = a2
                            · rw [if_pos c20] at H
                              have c20b0 : (((rd_T40 l0 x11_1).f0) == a2) = true := beq_iff_eq.mpr c20
                              have c20b1 : (((rd_T40 l0 x11_1).f0) != a2) = false := bne_eq_false_iff_eq.mpr c20
                              clear c20
                              have H' := Aside0.mk H
                              clear H
                              have p160 : 0 ≤ (x11_1 : Int) := of_decide_eq_true (by first | (with_reducible assumption) | assumption)
                              have q160 : x11_1 < (l1.length : Int) := of_decide_eq_true (by first | (with_reducible assumption) | assumption)
                              obtain ⟨ad160, e160, hx160_0⟩ := Kd.at_bool (Kd.C_kept_now HR1.out HK.out) x11_1 p160 q160
                              (try rw [← Nbq13.out] at hx160_0)
                              (try rw [← Nbq16.out] at hx160_0)
                              cases e160
                              replace p160 := eq_true p160
                              replace q160 := eq_true q160
                              obtain ⟨Ao21, co21, eo21⟩ := Kd.R_slice HO_4.out
                              subst eo21
                              have p161 : 0 ≤ (x11_1 : Int) := of_decide_eq_true (by first | (with_reducible assumption) | assumption)
                              have q161 : x11_1 < (x4_1.length : Int) := of_decide_eq_true (by first | (with_reducible assumption) | assumption)
                              obtain ⟨ad161, e161, hx161_0⟩ := Kd.at_bool (Kd.R_reads' HO_4.out).2.2 x11_1 p161 q161
                              (try rw [← Nbq13.out] at hx161_0)
                              (try rw [← Nbq16.out] at hx161_0)
                              cases e161
                              replace p161 := eq_true p161
                              replace q161 := eq_true q161
                              have p162 : 0 ≤ (x11_1 : Int) := of_decide_eq_true (by first | (with_reducible assumption) | assumption)
                              have q162 : x11_1 < (l0.length : Int) := of_decide_eq_true (by first | (with_reducible assumption) | assumption)
                              obtain ⟨ad162, A162_7, c162_7, e162, hx162_0, hx162_1, hx162_2, hx162_3, hx162_4, hx162_5, hx162_6, hx162_7, hl162_7, hi162_7⟩ := at_T40 (Kd.C_kept_now HR0.out HK.out) x11_1 p162 q162
                              cases e162
                              have HR162_7 := Aside0.mk hi162_7
                              have HC162_7 := Aside0.mk hl162_7
                              clear hi162_7 hl162_7
                              replace p162 := eq_true p162
                              replace q162 := eq_true q162
                              go_wp2
                              go_meet
                              case rel => exact ⟨_, (false), (by first | rfl | (simp; done) | (simp [*]; done)), H', ⟨by have := HK1.out; have := HJ6.out; first | omega | exact Nat.le_refl _⟩, ⟨by (with_reducible repeat (first | apply Kd.R_alloc | apply Kd.R_drewN | apply Kd.R_drew)); exact HO_4.out⟩, ⟨by repeat (first | (with_reducible first | exact HK.out | apply Kept.alloc | apply Kept.drewN | apply Kept.drew) | exact HK.out)⟩, ⟨by repeat (first | (with_reducible first | exact HB.out | apply below_alloc | apply pw_below_drewN | apply below_drew1) | exact HB.out)⟩⟩
                            · rw [if_neg c20] at H
                              have c20b0 : (((rd_T40 l0 x11_1).f0) == a2) = false := beq_eq_false_iff_ne.mpr c20
                              have c20b1 : (((rd_T40 l0 x11_1).f0) != a2) = true := bne_iff_ne.mpr c20
                              have H' := Aside0.mk H
                              clear H
                              have p160 : 0 ≤ (x11_1 : Int) := of_decide_eq_true (by first | (with_reducible assumption) | assumption)
                              have q160 : x11_1 < (l1.length : Int) := of_decide_eq_true (by first | (with_reducible assumption) | assumption)
                              obtain ⟨ad160, e160, hx160_0⟩ := Kd.at_bool (Kd.C_kept_now HR1.out HK.out) x11_1 p160 q160
                              (try rw [← Nbq13.out] at hx160_0)
                              (try rw [← Nbq16.out] at hx160_0)
                              cases e160
                              replace p160 := eq_true p160
                              replace q160 := eq_true q160
                              obtain ⟨Ao22, co22, eo22⟩ := Kd.R_slice HO_4.out
                              subst eo22
                              have p161 : 0 ≤ (x11_1 : Int) := of_decide_eq_true (by first | (with_reducible assumption) | assumption)
                              have q161 : x11_1 < (x4_1.length : Int) := of_decide_eq_true (by first | (with_reducible assumption) | assumption)
                              obtain ⟨ad161, e161, hx161_0⟩ := Kd.at_bool (Kd.R_reads' HO_4.out).2.2 x11_1 p161 q161
                              (try rw [← Nbq13.out] at hx161_0)
                              (try rw [← Nbq16.out] at hx161_0)
                              cases e161
                              replace p161 := eq_true p161
                              replace q161 := eq_true q161
                              have p162 : 0 ≤ (x11_1 : Int) := of_decide_eq_true (by first | (with_reducible assumption) | assumption)
                              have q162 : x11_1 < (l0.length : Int) := of_decide_eq_true (by first | (with_reducible assumption) | assumption)
                              obtain ⟨ad162, A162_7, c162_7, e162, hx162_0, hx162_1, hx162_2, hx162_3, hx162_4, hx162_5, hx162_6, hx162_7, hl162_7, hi162_7⟩ := at_T40 (Kd.C_kept_now HR0.out HK.out) x11_1 p162 q162
                              cases e162
                              have HR162_7 := Aside0.mk hi162_7
                              have HC162_7 := Aside0.mk hl162_7
                              clear hi162_7 hl162_7
                              replace p162 := eq_true p162
                              replace q162 := eq_true q162
                              have p163 : 0 ≤ (x11_1 : Int) := of_decide_eq_true (by first | (with_reducible assumption) | assumption)
                              have q163 : x11_1 < (l0.length : Int) := of_decide_eq_true (by first | (with_reducible assumption) | assumption)
                              obtain ⟨ad163, A163_7, c163_7, e163, hx163_0, hx163_1, hx163_2, hx163_3, hx163_4, hx163_5, hx163_6, hx163_7, hl163_7, hi163_7⟩ := at_T40 (Kd.C_kept_now HR0.out HK.out) x11_1 p163 q163
                              obtain rfl : ad162 = ad163 := (by injection e163)
                              have HR163_7 := Aside0.mk hi163_7
                              have HC163_7 := Aside0.mk hl163_7
                              clear hi163_7 hl163_7
                              replace p163 := eq_true p163
                              replace q163 := eq_true q163
                              have ea_ := Option.some.inj (hx162_7.symm.trans hx163_7)
                              injection ea_ with ea_ en_ ec_
                              subst ea_
                              subst ec_
                              clear en_
                              go_wp2
                              go_meet
                              case rel => exact ⟨_, ((((rd_T40 l0 x11_1).f1) != a2)), (by first | rfl | (simp; done) | (simp [*]; done)), H', ⟨by have := HK1.out; have := HJ6.out; first | omega | exact Nat.le_refl _⟩, ⟨by (with_reducible repeat (first | apply Kd.R_alloc | apply Kd.R_drewN | apply Kd.R_drew)); exact HO_4.out⟩, ⟨by repeat (first | (with_reducible first | exact HK.out | apply Kept.alloc | apply Kept.drewN | apply Kept.drew) | exact HK.out)⟩, ⟨by repeat (first | (with_reducible first | exact HB.out | apply below_alloc | apply pw_below_drewN | apply below_drew1) | exact HB.out)⟩⟩
                          · rw [if_neg c19] at H
                            exact absurd H (by simp)
                      · rw [if_neg c15] at H
                        exact absurd H (by simp)
                    · replace c14 := Bool.eq_false_iff.mpr c14
                      subst c14
                      have H1 : (ladderbackref45_Path.j2 kj6 l0 l1 a2 a3 x4_1 x11_1 true) = some (r1, r2) := by rw [if_neg (show ¬ (false = true) by decide)] at H; exact H
                      clear H
                      have H := H1
                      clear H1
                      have H' := Aside0.mk H
                      clear H
                      have p160 : 0 ≤ (x11_1 : Int) := of_decide_eq_true (by first | (with_reducible assumption) | assumption)
                      have q160 : x11_1 < (l1.length : Int) := of_decide_eq_true (by first | (with_reducible assumption) | assumption)
                      obtain ⟨ad160, e160, hx160_0⟩ := Kd.at_bool (Kd.C_kept_now HR1.out HK.out) x11_1 p160 q160
                      (try rw [← Nbq13.out] at hx160_0)
                      cases e160
                      replace p160 := eq_true p160
                      replace q160 := eq_true q160
                      go_wp2
                      go_meet
                      case rel => exact ⟨_, (true), (by first | rfl | (simp; done) | (simp [*]; done)), H', ⟨by have := HK1.out; have := HJ6.out; first | omega | exact Nat.le_refl _⟩, ⟨by (with_reducible repeat (first | apply Kd.R_alloc | apply Kd.R_drewN | apply Kd.R_drew)); exact HO_4.out⟩, ⟨by repeat (first | (with_reducible first | exact HK.out | apply Kept.alloc | apply Kept.drewN | apply Kept.drew) | exact HK.out)⟩, ⟨by repeat (first | (with_reducible first | exact HB.out | apply below_alloc | apply pw_below_drewN | apply below_drew1) | exact HB.out)⟩⟩
                  · rw [if_neg c12] at H
                    exact absurd H (by simp)
                · rw [if_neg c11] at H
                  exact absurd H (by simp)
              case rest =>
                clear HC10
                try clear c1
                try clear p1
                try clear q1
                try clear hx1
                try clear c2
                try clear p2
                try clear c6
                try clear c6b0
                try clear c6b1
                try clear c8
                try clear c8b0
                try clear c9
                try clear c11
                try clear c11b0
                try clear c12
                try clear c12b0
                try clear q13
                try clear c14
                try clear c15
                try clear c15b0
                try clear c16
                try clear p16
                try clear q16
                try clear hx16
                try clear c17
                try clear c19
                try clear c19b0
                try clear c20
                try clear c20b0
                try clear c20b1
                try clear hx160_0
                try clear hx161_0
                try clear hx162_0
                try clear hx162_1
                try clear hx162_2
                try clear hx162_3
                try clear hx162_4
                try clear hx162_5
                try clear hx162_6
                try clear hx162_7
                try clear hx163_0
                try clear hx163_1
                try clear hx163_2
                try clear hx163_3
                try clear hx163_4
                try clear hx163_5
                try clear hx163_6
                try clear hx163_7
                try clear p160
                try clear p161
                try clear p162
                try clear p163
                try clear p2
                try clear q160
                try clear q161
                try clear q162
                try clear q163
                obtain ⟨kq, x56_9, rfl, HA, HJ9, HO_4, HK, HB⟩ := hcut
                cases kq with
                | zero => exact absurd HA.out (by simp [ladderbackref45_Path.j2])
                | succ kj9 =>
                  have H := HA.out
                  clear HA
                  simp only [ladderbackref45_Path.j2] at H
                  by_cases c23 : x56_9 = true
                  · subst c23
                    have H1 : (ladderbackref45_Path.l0 kj9 l0 l1 a2 a3 x4_1 (wrap64 (x11_1 + 1))) = some (r1, r2) := by rw [if_pos rfl] at H; exact H
                    clear H
                    have H := H1
                    clear H1
                    have H' := Aside0.mk H
                    clear H
                    go_wp2
                    go_roundg kj9
                    case measure => have := HK1.out; have := HJ6.out; have := HJ9.out; omega
                    case rel => exact ⟨(x4_1), (wrap64 (x11_1 + 1)), (by first | rfl | (simp; done) | (simp [*]; done)), H', ⟨by have := HK1.out; have := HJ6.out; have := HJ9.out; omega⟩, ⟨by (with_reducible repeat (first | apply Kd.R_alloc | apply Kd.R_drewN | apply Kd.R_drew)); exact HO_4.out⟩, ⟨by repeat (first | (with_reducible first | exact HK.out | apply Kept.alloc | apply Kept.drewN | apply Kept.drew) | exact HK.out)⟩, ⟨by repeat (first | (with_reducible first | exact HB.out | apply below_alloc | apply pw_below_drewN | apply below_drew1) | exact HB.out)⟩⟩
                  · replace c23 := Bool.eq_false_iff.mpr c23
                    subst c23
                    have H1 : (if 0 ≤ x11_1 then (if x11_1 < (l0.length : Int) then (if ((rd_T40 l0 x11_1).f1) = a2 then (if x11_1 < (x4_1.length : Int) then ((ladderbackref45_Path.f kj9 l0 l1 ((rd_T40 l0 x11_1).f0) a3 (x4_1.set (x11_1 : Int).toNat true)).bind fun bt167 => (if bt167.1 = true then (some (true, bt167.2)) else (ladderbackref45_Path.l0 kj9 l0 l1 a2 a3 bt167.2 (wrap64 (x11_1 + 1))))) else (none)) else (if x11_1 < (x4_1.length : Int) then ((ladderbackref45_Path.f kj9 l0 l1 ((rd_T40 l0 x11_1).f1) a3 (x4_1.set (x11_1 : Int).toNat true)).bind fun bt170 => (if bt170.1 = true then (some (true, bt170.2)) else (ladderbackref45_Path.l0 kj9 l0 l1 a2 a3 bt170.2 (wrap64 (x11_1 + 1))))) else (none))) else (none)) else (none)) = some (r1, r2) := by rw [if_neg (show ¬ (false = true) by decide)] at H; exact H
                    clear H
                    have H := H1
                    clear H1
                    by_cases c24 : 0 ≤ x11_1
                    · rw [if_pos c24] at H
                      have c24b0 : decide (0 ≤ x11_1) = true := decide_eq_true c24
                      clear c24
                      by_cases c25 : x11_1 < (l0.length : Int)
                      · rw [if_pos c25] at H
                        have c25b0 : decide (x11_1 < (l0.length : Int)) = true := decide_eq_true c25
                        clear c25
                        by_cases c26 : ((rd_T40 l0 x11_1).f1) = a2
                        · rw [if_pos c26] at H
                          have c26b0 : (((rd_T40 l0 x11_1).f1) == a2) = true := beq_iff_eq.mpr c26
                          have c26b1 : (((rd_T40 l0 x11_1).f1) != a2) = false := bne_eq_false_iff_eq.mpr c26
                          clear c26
                          by_cases c27 : x11_1 < (x4_1.length : Int)
                          · rw [if_pos c27] at H
                            have c27b0 : decide (x11_1 < (x4_1.length : Int)) = true := decide_eq_true c27
                            clear c27
                            obtain ⟨y166, hy166⟩ : ∃ y_ : List Bool, y_ = (x4_1.set (x11_1 : Int).toNat true) := ⟨_, rfl⟩
                            replace H : ((ladderbackref45_Path.f kj9 l0 l1 ((rd_T40 l0 x11_1).f0) a3 y166).bind fun bt167 => (if bt167.1 = true then (some (true, bt167.2)) else (ladderbackref45_Path.l0 kj9 l0 l1 a2 a3 bt167.2 (wrap64 (x11_1 + 1))))) = some (r1, r2) := by first | (rw [hy166]; with_reducible exact H) | (have H2_ := (Option.bind_some _ _).symm.trans H; rw [hy166]; with_reducible exact H2_) | (have H2_ := (Option.bind_some _ _).symm.trans H; with_reducible exact H2_) | with_reducible exact H | (rw [hy166]; exact H) | exact H
                            have Ny166 := Aside0.mk hy166
                            clear hy166
                            replace H := Option.bind_eq_some_iff.mp H
                            obtain ⟨⟨t167, t168⟩, A290, H⟩ := H
                            replace H : (if t167 = true then (some (true, t168)) else (ladderbackref45_Path.l0 kj9 l0 l1 a2 a3 t168 (wrap64 (x11_1 + 1)))) = some (r1, r2) := H
                            have A29 := Aside0.mk A290
                            clear A290
                            by_cases c30 : t167 = true
                            · subst c30
                              have H1 : (some (true, t168)) = some (r1, r2) := by rw [if_pos rfl] at H; exact H
                              clear H
                              have H := H1
                              clear H1
                              simp only [Option.some.injEq, Prod.mk.injEq] at H
                              obtain ⟨rfl, rfl⟩ := H
                              have p164 : 0 ≤ (x11_1 : Int) := of_decide_eq_true (by first | (with_reducible assumption) | assumption)
                              have q164 : x11_1 < (l0.length : Int) := of_decide_eq_true (by first | (with_reducible assumption) | assumption)
                              obtain ⟨ad164, A164_7, c164_7, e164, hx164_0, hx164_1, hx164_2, hx164_3, hx164_4, hx164_5, hx164_6, hx164_7, hl164_7, hi164_7⟩ := at_T40 (Kd.C_kept_now HR0.out HK.out) x11_1 p164 q164
                              cases e164
                              have HR164_7 := Aside0.mk hi164_7
                              have HC164_7 := Aside0.mk hl164_7
                              clear hi164_7 hl164_7
                              replace p164 := eq_true p164
                              replace q164 := eq_true q164
                              have p165 : 0 ≤ (x11_1 : Int) := of_decide_eq_true (by first | (with_reducible assumption) | assumption)
                              have q165 : x11_1 < (l0.length : Int) := of_decide_eq_true (by first | (with_reducible assumption) | assumption)
                              obtain ⟨ad165, A165_7, c165_7, e165, hx165_0, hx165_1, hx165_2, hx165_3, hx165_4, hx165_5, hx165_6, hx165_7, hl165_7, hi165_7⟩ := at_T40 (Kd.C_kept_now HR0.out HK.out) x11_1 p165 q165
                              obtain rfl : ad164 = ad165 := (by injection e165)
                              have HR165_7 := Aside0.mk hi165_7
                              have HC165_7 := Aside0.mk hl165_7
                              clear hi165_7 hl165_7
                              replace p165 := eq_true p165
                              replace q165 := eq_true q165
                              have ea_ := Option.some.inj (hx164_7.symm.trans hx165_7)
                              injection ea_ with ea_ en_ ec_
                              subst ea_
                              subst ec_
                              clear en_
                              have p28 : 0 ≤ (x11_1 : Int) := of_decide_eq_true (by first | (with_reducible assumption) | assumption)
                              have q28 : (x11_1 : Int) < ((x4_1.length : Int) : Int) := of_decide_eq_true (by first | (with_reducible assumption) | assumption)
                              obtain ⟨go28, co28, eo28, gb28, gl28, cl28, HG28⟩ := Kd.R_form HO_4.out (by omega)
                              (first | cases eo28 | (injection eo28 with ea_ en_ ec_; (first | subst ea_ | (injection ea_ with ea_; subst ea_)); subst ec_; clear en_))
                              have GB28 := Aside0.mk gb28
                              have GG28 := Aside0.mk HG28
                              clear gb28 gl28 HG28
                              have HMgo28 := Aside0.mk (show (P4_ go28 ∨ w.heap.size ≤ go28) from (HO_4.out.1 _ rfl))
                              obtain ⟨hx28_0, hf28_0⟩ := Kd.R_celln false HO_4.out (x11_1 : Int) p28 q28
                              replace p28 := eq_true p28
                              replace q28 := eq_true q28
                              have HP31 := Kd.R_putg HO_4.out (x11_1 : Int) true
                              go_wp2_with (first | ((with_reducible refine gate_store (t := 4) (p := 72) rfl ?_); refine store_event (t := 4) (p := 72) (v := ?vo_w32) (w1 := (wc.setCell ⟨go28, (x11_1 : Int).toNat, none⟩ (.bool true))) ?hg ?ho ?hn ?hr ?_; (case ho => rfl); (case hg => rfl); (case hn => rfl); (case hr => first | (go_simp; done) | (go_simp; rfl)); intro w32 hw; have hg : wc.grownBy w32 (some go28) := (by rw [hw]; exact HP31.2); have hp_ : Kd.R Kd.bool 4 w32 w0.heap.size (fun k_ => (P4_ k_ ∨ w.heap.size ≤ k_)) (.slice (some ⟨go28, 0, none⟩) x4_1.length co28) y166 := (by rw [hw, Ny166.out]; exact HP31.1); clear HP31; have n0_ := Aside0.mk (hp_); have n1_ := Aside0.mk ((by rw [hw]; exact below_set (HB.out) GB28.out : Below w0.heap.size w0 w32)); have n2_ := Aside0.mk (Kept.of_grown (S := (fun k_ => P4_ k_)) hg (by repeat (first | (with_reducible first | exact HK.out | apply Kept.alloc | apply Kept.drewN | apply Kept.drew) | exact HK.out)) (fun k_ e_ => (HO_4.out.1 k_ e_))); clear HO_4; clear HB; clear HK; have HO_4 := n0_; have HB := n1_; have HK := n2_; clear n0_ n1_ n2_; clear hg hw hp_) | ((with_reducible refine gate_callee (f := 27) rfl ?_); refine goesL_ (some 78) rfl rfl Try.func27 (by kernel_rfl) rfl #[.slice (some ad164) l0.length c0, .slice A1 l1.length c1, .int .i64 ((rd_T40 l0 x11_1).f0), .int .i64 a3, .slice (some ⟨go28, 0, none⟩) x4_1.length co28] rfl (by (try simp only [List.map_toArray, List.map_cons, List.map_nil]); first | done | rfl | (simp only [List.length_drop, List.length_take]; rfl)) ?_; (with_reducible refine (ih kj9 (by have := HK1.out; have := HJ6.out; have := HJ9.out; omega) _ _ l0 _ _ l1 ((rd_T40 l0 x11_1).f0) a3 (fun k_ => some k_ = (.slice (some ⟨go28, 0, none⟩) x4_1.length co28 : Value).ownBlock) (.slice (some ⟨go28, 0, none⟩) x4_1.length co28) y166 true t168 w0 _ ?side1 ?side2 ?side3 ?side4 ?side5 ?side6 A29.out).mono ?_); (case side1 => repeat (first | (with_reducible first | exact HB.out | apply below_alloc | apply pw_below_drewN | apply below_drew1) | exact HB.out)); (case side2 => exact Kd.C_kept_call HR0.out (by repeat (first | (with_reducible first | exact HK.out | apply Kept.alloc | apply Kept.drewN | apply Kept.drew) | exact HK.out)) (fun k_ hs_ => (fun e_ => (HO_4.out.1 k_ e_.symm)) hs_)); (case side3 => exact HC0.out); (case side4 => exact Kd.C_kept_call HR1.out (by repeat (first | (with_reducible first | exact HK.out | apply Kept.alloc | apply Kept.drewN | apply Kept.drew) | exact HK.out)) (fun k_ hs_ => (fun e_ => (HO_4.out.1 k_ e_.symm)) hs_)); (case side5 => exact HC1.out); (case side6 => exact Kd.R_tight rfl HO_4.out); rintro e w33 ⟨rfl, hy0, hb, hkp⟩; refine ⟨_, rfl, ?_⟩; have n0_ := Aside0.mk (Kd.R_reok rfl hy0 (fun k_ e_ => HO_4.out.1 k_ e_)); have n1_ := Aside0.mk (Kept.then_ (S := (fun k_ => P4_ k_)) (by repeat (first | (with_reducible first | exact HK.out | apply Kept.alloc | apply Kept.drewN | apply Kept.drew) | exact HK.out)) hkp (fun k_ hs_ => (fun e_ => (HO_4.out.1 k_ e_.symm)) hs_)); have n2_ := Aside0.mk (hb); clear HO_4; clear HK; clear HB; have HO_4 := n0_; have HK := n1_; have HB := n2_; clear n0_ n1_ n2_; (try clear hb); (try clear hkp); (try clear hy0)))
                              go_ret
                              exact ⟨by first | rfl | (simp [errW_none, errW_some] <;> rfl) | (simp [*, errW_none, errW_some] <;> rfl), by (with_reducible repeat (first | apply Kd.R_alloc | apply Kd.R_drewN | apply Kd.R_drew)); exact HO_4.out, by repeat (first | (with_reducible first | exact HB.out | apply below_alloc | apply pw_below_drewN | apply below_drew1) | exact HB.out), by repeat (first | (with_reducible first | exact HK.out | apply Kept.alloc | apply Kept.drewN | apply Kept.drew) | exact HK.out)⟩
                            · replace c30 := Bool.eq_false_iff.mpr c30
                              subst c30
                              have H1 : (ladderbackref45_Path.l0 kj9 l0 l1 a2 a3 t168 (wrap64 (x11_1 + 1))) = some (r1, r2) := by rw [if_neg (show ¬ (false = true) by decide)] at H; exact H
                              clear H
                              have H := H1
                              clear H1
                              have H' := Aside0.mk H
                              clear H
                              have p164 : 0 ≤ (x11_1 : Int) := of_decide_eq_true (by first | (with_reducible assumption) | assumption)
                              have q164 : x11_1 < (l0.length : Int) := of_decide_eq_true (by first | (with_reducible assumption) | assumption)
                              obtain ⟨ad164, A164_7, c164_7, e164, hx164_0, hx164_1, hx164_2, hx164_3, hx164_4, hx164_5, hx164_6, hx164_7, hl164_7, hi164_7⟩ := at_T40 (Kd.C_kept_now HR0.out HK.out) x11_1 p164 q164
                              cases e164
                              have HR164_7 := Aside0.mk hi164_7
                              have HC164_7 := Aside0.mk hl164_7
                              clear hi164_7 hl164_7
                              replace p164 := eq_true p164
                              replace q164 := eq_true q164
                              have p165 : 0 ≤ (x11_1 : Int) := of_decide_eq_true (by first | (with_reducible assumption) | assumption)
                              have q165 : x11_1 < (l0.length : Int) := of_decide_eq_true (by first | (with_reducible assumption) | assumption)
                              obtain ⟨ad165, A165_7, c165_7, e165, hx165_0, hx165_1, hx165_2, hx165_3, hx165_4, hx165_5, hx165_6, hx165_7, hl165_7, hi165_7⟩ := at_T40 (Kd.C_kept_now HR0.out HK.out) x11_1 p165 q165
                              obtain rfl : ad164 = ad165 := (by injection e165)
                              have HR165_7 := Aside0.mk hi165_7
                              have HC165_7 := Aside0.mk hl165_7
                              clear hi165_7 hl165_7
                              replace p165 := eq_true p165
                              replace q165 := eq_true q165
                              have ea_ := Option.some.inj (hx164_7.symm.trans hx165_7)
                              injection ea_ with ea_ en_ ec_
                              subst ea_
                              subst ec_
                              clear en_
                              have p28 : 0 ≤ (x11_1 : Int) := of_decide_eq_true (by first | (with_reducible assumption) | assumption)
                              have q28 : (x11_1 : Int) < ((x4_1.length : Int) : Int) := of_decide_eq_true (by first | (with_reducible assumption) | assumption)
                              obtain ⟨go28, co28, eo28, gb28, gl28, cl28, HG28⟩ := Kd.R_form HO_4.out (by omega)
                              (first | cases eo28 | (injection eo28 with ea_ en_ ec_; (first | subst ea_ | (injection ea_ with ea_; subst ea_)); subst ec_; clear en_))
                              have GB28 := Aside0.mk gb28
                              have GG28 := Aside0.mk HG28
                              clear gb28 gl28 HG28
                              have HMgo28 := Aside0.mk (show (P4_ go28 ∨ w.heap.size ≤ go28) from (HO_4.out.1 _ rfl))
                              obtain ⟨hx28_0, hf28_0⟩ := Kd.R_celln false HO_4.out (x11_1 : Int) p28 q28
                              replace p28 := eq_true p28
                              replace q28 := eq_true q28
                              have HP34 := Kd.R_putg HO_4.out (x11_1 : Int) true
                              go_wp2_with (first | ((with_reducible refine gate_store (t := 4) (p := 72) rfl ?_); refine store_event (t := 4) (p := 72) (v := ?vo_w35) (w1 := (wc.setCell ⟨go28, (x11_1 : Int).toNat, none⟩ (.bool true))) ?hg ?ho ?hn ?hr ?_; (case ho => rfl); (case hg => rfl); (case hn => rfl); (case hr => first | (go_simp; done) | (go_simp; rfl)); intro w35 hw; have hg : wc.grownBy w35 (some go28) := (by rw [hw]; exact HP34.2); have hp_ : Kd.R Kd.bool 4 w35 w0.heap.size (fun k_ => (P4_ k_ ∨ w.heap.size ≤ k_)) (.slice (some ⟨go28, 0, none⟩) x4_1.length co28) y166 := (by rw [hw, Ny166.out]; exact HP34.1); clear HP34; have n0_ := Aside0.mk (hp_); have n1_ := Aside0.mk ((by rw [hw]; exact below_set (HB.out) GB28.out : Below w0.heap.size w0 w35)); have n2_ := Aside0.mk (Kept.of_grown (S := (fun k_ => P4_ k_)) hg (by repeat (first | (with_reducible first | exact HK.out | apply Kept.alloc | apply Kept.drewN | apply Kept.drew) | exact HK.out)) (fun k_ e_ => (HO_4.out.1 k_ e_))); clear HO_4; clear HB; clear HK; have HO_4 := n0_; have HB := n1_; have HK := n2_; clear n0_ n1_ n2_; clear hg hw hp_) | ((with_reducible refine gate_callee (f := 27) rfl ?_); refine goesL_ (some 78) rfl rfl Try.func27 (by kernel_rfl) rfl #[.slice (some ad164) l0.length c0, .slice A1 l1.length c1, .int .i64 ((rd_T40 l0 x11_1).f0), .int .i64 a3, .slice (some ⟨go28, 0, none⟩) x4_1.length co28] rfl (by (try simp only [List.map_toArray, List.map_cons, List.map_nil]); first | done | rfl | (simp only [List.length_drop, List.length_take]; rfl)) ?_; (with_reducible refine (ih kj9 (by have := HK1.out; have := HJ6.out; have := HJ9.out; omega) _ _ l0 _ _ l1 ((rd_T40 l0 x11_1).f0) a3 (fun k_ => some k_ = (.slice (some ⟨go28, 0, none⟩) x4_1.length co28 : Value).ownBlock) (.slice (some ⟨go28, 0, none⟩) x4_1.length co28) y166 false t168 w0 _ ?side1 ?side2 ?side3 ?side4 ?side5 ?side6 A29.out).mono ?_); (case side1 => repeat (first | (with_reducible first | exact HB.out | apply below_alloc | apply pw_below_drewN | apply below_drew1) | exact HB.out)); (case side2 => exact Kd.C_kept_call HR0.out (by repeat (first | (with_reducible first | exact HK.out | apply Kept.alloc | apply Kept.drewN | apply Kept.drew) | exact HK.out)) (fun k_ hs_ => (fun e_ => (HO_4.out.1 k_ e_.symm)) hs_)); (case side3 => exact HC0.out); (case side4 => exact Kd.C_kept_call HR1.out (by repeat (first | (with_reducible first | exact HK.out | apply Kept.alloc | apply Kept.drewN | apply Kept.drew) | exact HK.out)) (fun k_ hs_ => (fun e_ => (HO_4.out.1 k_ e_.symm)) hs_)); (case side5 => exact HC1.out); (case side6 => exact Kd.R_tight rfl HO_4.out); rintro e w36 ⟨rfl, hy0, hb, hkp⟩; refine ⟨_, rfl, ?_⟩; have n0_ := Aside0.mk (Kd.R_reok rfl hy0 (fun k_ e_ => HO_4.out.1 k_ e_)); have n1_ := Aside0.mk (Kept.then_ (S := (fun k_ => P4_ k_)) (by repeat (first | (with_reducible first | exact HK.out | apply Kept.alloc | apply Kept.drewN | apply Kept.drew) | exact HK.out)) hkp (fun k_ hs_ => (fun e_ => (HO_4.out.1 k_ e_.symm)) hs_)); have n2_ := Aside0.mk (hb); clear HO_4; clear HK; clear HB; have HO_4 := n0_; have HK := n1_; have HB := n2_; clear n0_ n1_ n2_; (try clear hb); (try clear hkp); (try clear hy0)))
                              go_roundg kj9
                              case measure => have := HK1.out; have := HJ6.out; have := HJ9.out; omega
                              case rel => exact ⟨(t168), (wrap64 (x11_1 + 1)), (by first | rfl | (simp; done) | (simp [*]; done)), H', ⟨by have := HK1.out; have := HJ6.out; have := HJ9.out; omega⟩, ⟨by (with_reducible repeat (first | apply Kd.R_alloc | apply Kd.R_drewN | apply Kd.R_drew)); exact HO_4.out⟩, ⟨by repeat (first | (with_reducible first | exact HK.out | apply Kept.alloc | apply Kept.drewN | apply Kept.drew) | exact HK.out)⟩, ⟨by repeat (first | (with_reducible first | exact HB.out | apply below_alloc | apply pw_below_drewN | apply below_drew1) | exact HB.out)⟩⟩
                          · rw [if_neg c27] at H
                            exact absurd H (by simp)
                        · rw [if_neg c26] at H
                          have c26b0 : (((rd_T40 l0 x11_1).f1) == a2) = false := beq_eq_false_iff_ne.mpr c26
                          have c26b1 : (((rd_T40 l0 x11_1).f1) != a2) = true := bne_iff_ne.mpr c26
                          by_cases c37 : x11_1 < (x4_1.length : Int)
                          · rw [if_pos c37] at H
                            have c37b0 : decide (x11_1 < (x4_1.length : Int)) = true := decide_eq_true c37
                            clear c37
                            obtain ⟨y169, hy169⟩ : ∃ y_ : List Bool, y_ = (x4_1.set (x11_1 : Int).toNat true) := ⟨_, rfl⟩
                            replace H : ((ladderbackref45_Path.f kj9 l0 l1 ((rd_T40 l0 x11_1).f1) a3 y169).bind fun bt170 => (if bt170.1 = true then (some (true, bt170.2)) else (ladderbackref45_Path.l0 kj9 l0 l1 a2 a3 bt170.2 (wrap64 (x11_1 + 1))))) = some (r1, r2) := by first | (rw [hy169]; with_reducible exact H) | (have H2_ := (Option.bind_some _ _).symm.trans H; rw [hy169]; with_reducible exact H2_) | (have H2_ := (Option.bind_some _ _).symm.trans H; with_reducible exact H2_) | with_reducible exact H | (rw [hy169]; exact H) | exact H
                            have Ny169 := Aside0.mk hy169
                            clear hy169
                            replace H := Option.bind_eq_some_iff.mp H
                            obtain ⟨⟨t170, t171⟩, A390, H⟩ := H
                            replace H : (if t170 = true then (some (true, t171)) else (ladderbackref45_Path.l0 kj9 l0 l1 a2 a3 t171 (wrap64 (x11_1 + 1)))) = some (r1, r2) := H
                            have A39 := Aside0.mk A390
                            clear A390
                            by_cases c40 : t170 = true
                            · subst c40
                              have H1 : (some (true, t171)) = some (r1, r2) := by rw [if_pos rfl] at H; exact H
                              clear H
                              have H := H1
                              clear H1
                              simp only [Option.some.injEq, Prod.mk.injEq] at H
                              obtain ⟨rfl, rfl⟩ := H
                              have p164 : 0 ≤ (x11_1 : Int) := of_decide_eq_true (by first | (with_reducible assumption) | assumption)
                              have q164 : x11_1 < (l0.length : Int) := of_decide_eq_true (by first | (with_reducible assumption) | assumption)
                              obtain ⟨ad164, A164_7, c164_7, e164, hx164_0, hx164_1, hx164_2, hx164_3, hx164_4, hx164_5, hx164_6, hx164_7, hl164_7, hi164_7⟩ := at_T40 (Kd.C_kept_now HR0.out HK.out) x11_1 p164 q164
                              cases e164
                              have HR164_7 := Aside0.mk hi164_7
                              have HC164_7 := Aside0.mk hl164_7
                              clear hi164_7 hl164_7
                              replace p164 := eq_true p164
                              replace q164 := eq_true q164
                              have p38 : 0 ≤ (x11_1 : Int) := of_decide_eq_true (by first | (with_reducible assumption) | assumption)
                              have q38 : (x11_1 : Int) < ((x4_1.length : Int) : Int) := of_decide_eq_true (by first | (with_reducible assumption) | assumption)
                              obtain ⟨go38, co38, eo38, gb38, gl38, cl38, HG38⟩ := Kd.R_form HO_4.out (by omega)
                              (first | cases eo38 | (injection eo38 with ea_ en_ ec_; (first | subst ea_ | (injection ea_ with ea_; subst ea_)); subst ec_; clear en_))
                              have GB38 := Aside0.mk gb38
                              have GG38 := Aside0.mk HG38
                              clear gb38 gl38 HG38
                              have HMgo38 := Aside0.mk (show (P4_ go38 ∨ w.heap.size ≤ go38) from (HO_4.out.1 _ rfl))
                              obtain ⟨hx38_0, hf38_0⟩ := Kd.R_celln false HO_4.out (x11_1 : Int) p38 q38
                              replace p38 := eq_true p38
                              replace q38 := eq_true q38
                              have HP41 := Kd.R_putg HO_4.out (x11_1 : Int) true
                              go_wp2_with (first | ((with_reducible refine gate_store (t := 4) (p := 72) rfl ?_); refine store_event (t := 4) (p := 72) (v := ?vo_w42) (w1 := (wc.setCell ⟨go38, (x11_1 : Int).toNat, none⟩ (.bool true))) ?hg ?ho ?hn ?hr ?_; (case ho => rfl); (case hg => rfl); (case hn => rfl); (case hr => first | (go_simp; done) | (go_simp; rfl)); intro w42 hw; have hg : wc.grownBy w42 (some go38) := (by rw [hw]; exact HP41.2); have hp_ : Kd.R Kd.bool 4 w42 w0.heap.size (fun k_ => (P4_ k_ ∨ w.heap.size ≤ k_)) (.slice (some ⟨go38, 0, none⟩) x4_1.length co38) y169 := (by rw [hw, Ny169.out]; exact HP41.1); clear HP41; have n0_ := Aside0.mk (hp_); have n1_ := Aside0.mk ((by rw [hw]; exact below_set (HB.out) GB38.out : Below w0.heap.size w0 w42)); have n2_ := Aside0.mk (Kept.of_grown (S := (fun k_ => P4_ k_)) hg (by repeat (first | (with_reducible first | exact HK.out | apply Kept.alloc | apply Kept.drewN | apply Kept.drew) | exact HK.out)) (fun k_ e_ => (HO_4.out.1 k_ e_))); clear HO_4; clear HB; clear HK; have HO_4 := n0_; have HB := n1_; have HK := n2_; clear n0_ n1_ n2_; clear hg hw hp_) | ((with_reducible refine gate_callee (f := 27) rfl ?_); refine goesL_ (some 78) rfl rfl Try.func27 (by kernel_rfl) rfl #[.slice (some ad164) l0.length c0, .slice A1 l1.length c1, .int .i64 ((rd_T40 l0 x11_1).f1), .int .i64 a3, .slice (some ⟨go38, 0, none⟩) x4_1.length co38] rfl (by (try simp only [List.map_toArray, List.map_cons, List.map_nil]); first | done | rfl | (simp only [List.length_drop, List.length_take]; rfl)) ?_; (with_reducible refine (ih kj9 (by have := HK1.out; have := HJ6.out; have := HJ9.out; omega) _ _ l0 _ _ l1 ((rd_T40 l0 x11_1).f1) a3 (fun k_ => some k_ = (.slice (some ⟨go38, 0, none⟩) x4_1.length co38 : Value).ownBlock) (.slice (some ⟨go38, 0, none⟩) x4_1.length co38) y169 true t171 w0 _ ?side1 ?side2 ?side3 ?side4 ?side5 ?side6 A39.out).mono ?_); (case side1 => repeat (first | (with_reducible first | exact HB.out | apply below_alloc | apply pw_below_drewN | apply below_drew1) | exact HB.out)); (case side2 => exact Kd.C_kept_call HR0.out (by repeat (first | (with_reducible first | exact HK.out | apply Kept.alloc | apply Kept.drewN | apply Kept.drew) | exact HK.out)) (fun k_ hs_ => (fun e_ => (HO_4.out.1 k_ e_.symm)) hs_)); (case side3 => exact HC0.out); (case side4 => exact Kd.C_kept_call HR1.out (by repeat (first | (with_reducible first | exact HK.out | apply Kept.alloc | apply Kept.drewN | apply Kept.drew) | exact HK.out)) (fun k_ hs_ => (fun e_ => (HO_4.out.1 k_ e_.symm)) hs_)); (case side5 => exact HC1.out); (case side6 => exact Kd.R_tight rfl HO_4.out); rintro e w43 ⟨rfl, hy0, hb, hkp⟩; refine ⟨_, rfl, ?_⟩; have n0_ := Aside0.mk (Kd.R_reok rfl hy0 (fun k_ e_ => HO_4.out.1 k_ e_)); have n1_ := Aside0.mk (Kept.then_ (S := (fun k_ => P4_ k_)) (by repeat (first | (with_reducible first | exact HK.out | apply Kept.alloc | apply Kept.drewN | apply Kept.drew) | exact HK.out)) hkp (fun k_ hs_ => (fun e_ => (HO_4.out.1 k_ e_.symm)) hs_)); have n2_ := Aside0.mk (hb); clear HO_4; clear HK; clear HB; have HO_4 := n0_; have HK := n1_; have HB := n2_; clear n0_ n1_ n2_; (try clear hb); (try clear hkp); (try clear hy0)))
                              go_ret
                              exact ⟨by first | rfl | (simp [errW_none, errW_some] <;> rfl) | (simp [*, errW_none, errW_some] <;> rfl), by (with_reducible repeat (first | apply Kd.R_alloc | apply Kd.R_drewN | apply Kd.R_drew)); exact HO_4.out, by repeat (first | (with_reducible first | exact HB.out | apply below_alloc | apply pw_below_drewN | apply below_drew1) | exact HB.out), by repeat (first | (with_reducible first | exact HK.out | apply Kept.alloc | apply Kept.drewN | apply Kept.drew) | exact HK.out)⟩
                            · replace c40 := Bool.eq_false_iff.mpr c40
                              subst c40
                              have H1 : (ladderbackref45_Path.l0 kj9 l0 l1 a2 a3 t171 (wrap64 (x11_1 + 1))) = some (r1, r2) := by rw [if_neg (show ¬ (false = true) by decide)] at H; exact H
                              clear H
                              have H := H1
                              clear H1
                              have H' := Aside0.mk H
                              clear H
                              have p164 : 0 ≤ (x11_1 : Int) := of_decide_eq_true (by first | (with_reducible assumption) | assumption)
                              have q164 : x11_1 < (l0.length : Int) := of_decide_eq_true (by first | (with_reducible assumption) | assumption)
                              obtain ⟨ad164, A164_7, c164_7, e164, hx164_0, hx164_1, hx164_2, hx164_3, hx164_4, hx164_5, hx164_6, hx164_7, hl164_7, hi164_7⟩ := at_T40 (Kd.C_kept_now HR0.out HK.out) x11_1 p164 q164
                              cases e164
                              have HR164_7 := Aside0.mk hi164_7
                              have HC164_7 := Aside0.mk hl164_7
                              clear hi164_7 hl164_7
                              replace p164 := eq_true p164
                              replace q164 := eq_true q164
                              have p38 : 0 ≤ (x11_1 : Int) := of_decide_eq_true (by first | (with_reducible assumption) | assumption)
                              have q38 : (x11_1 : Int) < ((x4_1.length : Int) : Int) := of_decide_eq_true (by first | (with_reducible assumption) | assumption)
                              obtain ⟨go38, co38, eo38, gb38, gl38, cl38, HG38⟩ := Kd.R_form HO_4.out (by omega)
                              (first | cases eo38 | (injection eo38 with ea_ en_ ec_; (first | subst ea_ | (injection ea_ with ea_; subst ea_)); subst ec_; clear en_))
                              have GB38 := Aside0.mk gb38
                              have GG38 := Aside0.mk HG38
                              clear gb38 gl38 HG38
                              have HMgo38 := Aside0.mk (show (P4_ go38 ∨ w.heap.size ≤ go38) from (HO_4.out.1 _ rfl))
                              obtain ⟨hx38_0, hf38_0⟩ := Kd.R_celln false HO_4.out (x11_1 : Int) p38 q38
                              replace p38 := eq_true p38
                              replace q38 := eq_true q38
                              have HP44 := Kd.R_putg HO_4.out (x11_1 : Int) true
                              go_wp2_with (first | ((with_reducible refine gate_store (t := 4) (p := 72) rfl ?_); refine store_event (t := 4) (p := 72) (v := ?vo_w45) (w1 := (wc.setCell ⟨go38, (x11_1 : Int).toNat, none⟩ (.bool true))) ?hg ?ho ?hn ?hr ?_; (case ho => rfl); (case hg => rfl); (case hn => rfl); (case hr => first | (go_simp; done) | (go_simp; rfl)); intro w45 hw; have hg : wc.grownBy w45 (some go38) := (by rw [hw]; exact HP44.2); have hp_ : Kd.R Kd.bool 4 w45 w0.heap.size (fun k_ => (P4_ k_ ∨ w.heap.size ≤ k_)) (.slice (some ⟨go38, 0, none⟩) x4_1.length co38) y169 := (by rw [hw, Ny169.out]; exact HP44.1); clear HP44; have n0_ := Aside0.mk (hp_); have n1_ := Aside0.mk ((by rw [hw]; exact below_set (HB.out) GB38.out : Below w0.heap.size w0 w45)); have n2_ := Aside0.mk (Kept.of_grown (S := (fun k_ => P4_ k_)) hg (by repeat (first | (with_reducible first | exact HK.out | apply Kept.alloc | apply Kept.drewN | apply Kept.drew) | exact HK.out)) (fun k_ e_ => (HO_4.out.1 k_ e_))); clear HO_4; clear HB; clear HK; have HO_4 := n0_; have HB := n1_; have HK := n2_; clear n0_ n1_ n2_; clear hg hw hp_) | ((with_reducible refine gate_callee (f := 27) rfl ?_); refine goesL_ (some 78) rfl rfl Try.func27 (by kernel_rfl) rfl #[.slice (some ad164) l0.length c0, .slice A1 l1.length c1, .int .i64 ((rd_T40 l0 x11_1).f1), .int .i64 a3, .slice (some ⟨go38, 0, none⟩) x4_1.length co38] rfl (by (try simp only [List.map_toArray, List.map_cons, List.map_nil]); first | done | rfl | (simp only [List.length_drop, List.length_take]; rfl)) ?_; (with_reducible refine (ih kj9 (by have := HK1.out; have := HJ6.out; have := HJ9.out; omega) _ _ l0 _ _ l1 ((rd_T40 l0 x11_1).f1) a3 (fun k_ => some k_ = (.slice (some ⟨go38, 0, none⟩) x4_1.length co38 : Value).ownBlock) (.slice (some ⟨go38, 0, none⟩) x4_1.length co38) y169 false t171 w0 _ ?side1 ?side2 ?side3 ?side4 ?side5 ?side6 A39.out).mono ?_); (case side1 => repeat (first | (with_reducible first | exact HB.out | apply below_alloc | apply pw_below_drewN | apply below_drew1) | exact HB.out)); (case side2 => exact Kd.C_kept_call HR0.out (by repeat (first | (with_reducible first | exact HK.out | apply Kept.alloc | apply Kept.drewN | apply Kept.drew) | exact HK.out)) (fun k_ hs_ => (fun e_ => (HO_4.out.1 k_ e_.symm)) hs_)); (case side3 => exact HC0.out); (case side4 => exact Kd.C_kept_call HR1.out (by repeat (first | (with_reducible first | exact HK.out | apply Kept.alloc | apply Kept.drewN | apply Kept.drew) | exact HK.out)) (fun k_ hs_ => (fun e_ => (HO_4.out.1 k_ e_.symm)) hs_)); (case side5 => exact HC1.out); (case side6 => exact Kd.R_tight rfl HO_4.out); rintro e w46 ⟨rfl, hy0, hb, hkp⟩; refine ⟨_, rfl, ?_⟩; have n0_ := Aside0.mk (Kd.R_reok rfl hy0 (fun k_ e_ => HO_4.out.1 k_ e_)); have n1_ := Aside0.mk (Kept.then_ (S := (fun k_ => P4_ k_)) (by repeat (first | (with_reducible first | exact HK.out | apply Kept.alloc | apply Kept.drewN | apply Kept.drew) | exact HK.out)) hkp (fun k_ hs_ => (fun e_ => (HO_4.out.1 k_ e_.symm)) hs_)); have n2_ := Aside0.mk (hb); clear HO_4; clear HK; clear HB; have HO_4 := n0_; have HK := n1_; have HB := n2_; clear n0_ n1_ n2_; (try clear hb); (try clear hkp); (try clear hy0)))
                              go_roundg kj9
                              case measure => have := HK1.out; have := HJ6.out; have := HJ9.out; omega
                              case rel => exact ⟨(t171), (wrap64 (x11_1 + 1)), (by first | rfl | (simp; done) | (simp [*]; done)), H', ⟨by have := HK1.out; have := HJ6.out; have := HJ9.out; omega⟩, ⟨by (with_reducible repeat (first | apply Kd.R_alloc | apply Kd.R_drewN | apply Kd.R_drew)); exact HO_4.out⟩, ⟨by repeat (first | (with_reducible first | exact HK.out | apply Kept.alloc | apply Kept.drewN | apply Kept.drew) | exact HK.out)⟩, ⟨by repeat (first | (with_reducible first | exact HB.out | apply below_alloc | apply pw_below_drewN | apply below_drew1) | exact HB.out)⟩⟩
                          · rw [if_neg c37] at H
                            exact absurd H (by simp)
                      · rw [if_neg c25] at H
                        exact absurd H (by simp)
                    · rw [if_neg c24] at H
                      exact absurd H (by simp)
            · replace c9 := Bool.eq_false_iff.mpr c9
              subst c9
              have H1 : (some (false, x4_1)) = some (r1, r2) := by rw [if_neg (show ¬ (false = true) by decide)] at H; exact H
              clear H
              have H := H1
              clear H1
              simp only [Option.some.injEq, Prod.mk.injEq] at H
              obtain ⟨rfl, rfl⟩ := H
              go_wp2
              go_ret
              exact ⟨by first | rfl | (simp [errW_none, errW_some] <;> rfl) | (simp [*, errW_none, errW_some] <;> rfl), by (with_reducible repeat (first | apply Kd.R_alloc | apply Kd.R_drewN | apply Kd.R_drew)); exact HO_4.out, by repeat (first | (with_reducible first | exact HB.out | apply below_alloc | apply pw_below_drewN | apply below_drew1) | exact HB.out), by repeat (first | (with_reducible first | exact HK.out | apply Kept.alloc | apply Kept.drewN | apply Kept.drew) | exact HK.out)⟩

/-! ### ladderbackref45_Flows: function 14 -/
def ladderbackref45_Flows.f (k : Nat) (l0 : List (S40)) (l1 : List Bool) : Option (Bool) := if 0 ≤ (l0.length : Int) then (if ((l0.length : Int) : Int).toNat ≤ 281474976710656 then ((ladderbackref45_Path.f k l0 l1 0 1 (List.replicate ((l0.length : Int) : Int).toNat false)).bind fun bt175 => (some bt175.1)) else (none)) else (none)
set_option maxHeartbeats 8000000 in
set_option maxRecDepth 100000 in
theorem ladderbackref45_Flows.calls (k : Nat) (A0 : Option Addr) (c0 : Nat) (l0 : List (S40)) (A1 : Option Addr) (c1 : Nat) (l1 : List Bool) (r : Bool) (w : World) (hr0 : Kd.C k40 w A0 l0.length l0) (hc0 : l0.length ≤ c0) (hr1 : Kd.C Kd.bool w A1 l1.length l1) (hc1 : l1.length ≤ c1) (h : ladderbackref45_Flows.f k l0 l1 = some r) :
    Calls Try.prog 14 #[.slice A0 l0.length c0, .slice A1 l1.length c1] w fun e w' => e = .returned (.bool r) ∧ Below w.heap.size w w' := by
  have HR0 := Aside0.mk hr0
  have HC0 := Aside0.mk hc0
  clear hr0 hc0
  have HR1 := Aside0.mk hr1
  have HC1 := Aside0.mk hc1
  clear hr1 hc1
  have HB := Aside0.mk (Below.refl w.heap.size w)
  have H : (if 0 ≤ (l0.length : Int) then (if ((l0.length : Int) : Int).toNat ≤ 281474976710656 then ((ladderbackref45_Path.f k l0 l1 0 1 (List.replicate ((l0.length : Int) : Int).toNat false)).bind fun bt175 => (some bt175.1)) else (none)) else (none)) = some r := h
  clear h
  by_cases c3 : 0 ≤ (l0.length : Int)
  · rw [if_pos c3] at H
    have c3b0 := eq_true c3
    have c3b1 : decide (0 ≤ (l0.length : Int)) = true := decide_eq_true c3
    clear c3
    by_cases c4 : ((l0.length : Int) : Int).toNat ≤ 281474976710656
    · rw [if_pos c4] at H
      have c4b0 := eq_true c4
      have c4b1 : decide (((l0.length : Int) : Int).toNat ≤ 281474976710656) = true := decide_eq_true c4
      clear c4
      obtain ⟨y172, hy172⟩ : ∃ y_ : List Bool, y_ = (List.replicate ((l0.length : Int) : Int).toNat false) := ⟨_, rfl⟩
      replace H : ((ladderbackref45_Path.f k l0 l1 0 1 y172).bind fun bt175 => (some bt175.1)) = some r := by first | (rw [hy172]; with_reducible exact H) | (have H2_ := (Option.bind_some _ _).symm.trans H; rw [hy172]; with_reducible exact H2_) | (have H2_ := (Option.bind_some _ _).symm.trans H; with_reducible exact H2_) | with_reducible exact H | (rw [hy172]; exact H) | exact H
      have Ny172 := Aside0.mk hy172
      clear hy172
      replace H := Option.bind_eq_some_iff.mp H
      obtain ⟨⟨t175, t176⟩, A50, H⟩ := H
      replace H : (some t175) = some r := H
      have A5 := Aside0.mk A50
      clear A50
      obtain rfl := Option.some.inj H
      go_enter Try.func14, Try.ntmps14
      go_wp2_with (first | ((with_reducible refine gate_dst (N := 9) rfl ?_); refine Kd.R_make Kd.bool _ 4 rfl (N := 9) rfl 36 _ _ rfl (l0.length : Int) rfl rfl Try.underlying36 (.bool false) 1 info4 rfl (by decide) (by omega) false (ok := fun _ => True) (okp := fun _ => True) rfl (fun _ hk => hk) trivial (of_decide_eq_true (by first | (with_reducible assumption) | assumption)) (Nat.le_trans (Nat.mul_le_mul_right _ (of_decide_eq_true (by first | (with_reducible assumption) | assumption) : (l0.length : Int).toNat ≤ 281474976710656)) (by omega)) (Below.refl _ _) (Nat.le_refl _) ?_; intro v173 w6 ho7 hb hg_ hnew_; clear hg_ hnew_; (first | rw [← Ny172.out] at ho7 | (simp only [Int.reduceToNat] at ho7; rw [← Ny172.out] at ho7)); have n0_ := Aside0.mk (Kd.R_lower ho7 (below_size (by repeat (first | (with_reducible first | exact HB.out | apply below_alloc | apply pw_below_drewN | apply below_drew1) | exact HB.out)))); have n1_ := Aside0.mk (below_step (by repeat (first | (with_reducible first | exact HB.out | apply below_alloc | apply pw_below_drewN | apply below_drew1) | exact HB.out)) hb); clear HB; have HO174 := n0_; have HB := n1_; clear n0_ n1_; clear hb ho7; obtain ⟨Ao8, co8, eo8⟩ := Kd.R_slice HO174.out; subst eo8) | ((with_reducible refine gate_callee (f := 27) rfl ?_); refine goesL_ (some 10) rfl rfl Try.func27 (by kernel_rfl) rfl #[.slice A0 l0.length c0, .slice A1 l1.length c1, .int .i64 0, .int .i64 1, .slice Ao8 y172.length co8] rfl (by (try simp only [List.map_toArray, List.map_cons, List.map_nil]); first | done | rfl | (simp only [List.length_drop, List.length_take]; rfl)) ?_; (with_reducible refine (ladderbackref45_Path.calls k _ _ l0 _ _ l1 0 1 (fun k_ => some k_ = (.slice Ao8 y172.length co8 : Value).ownBlock) (.slice Ao8 y172.length co8) y172 t175 t176 w _ ?side1 ?side2 ?side3 ?side4 ?side5 ?side6 A5.out).mono ?_); (case side1 => repeat (first | (with_reducible first | exact HB.out | apply below_alloc | apply pw_below_drewN | apply below_drew1) | exact HB.out)); (case side2 => exact Kd.C_kept_came k40_heap HR0.out (by repeat (first | (with_reducible first | exact HB.out | apply below_alloc | apply pw_below_drewN | apply below_drew1) | exact HB.out)) (fun k_ hs_ => (fun e_ => Kd.R_base HO174.out k_ e_.symm) hs_)); (case side3 => exact HC0.out); (case side4 => exact Kd.C_kept_came Kd.heap_bool HR1.out (by repeat (first | (with_reducible first | exact HB.out | apply below_alloc | apply pw_below_drewN | apply below_drew1) | exact HB.out)) (fun k_ hs_ => (fun e_ => Kd.R_base HO174.out k_ e_.symm) hs_)); (case side5 => exact HC1.out); (case side6 => exact Kd.R_tight rfl HO174.out); rintro e w9 ⟨rfl, hy0, hb, hkp⟩; refine ⟨_, rfl, ?_⟩; have n0_ := Aside0.mk (Kd.R_reok rfl hy0 (fun k_ e_ => HO174.out.1 k_ e_)); have n1_ := Aside0.mk (hb); clear HO174; clear HB; have HO174 := n0_; have HB := n1_; clear n0_ n1_; (try clear hb); (try clear hkp); (try clear hy0)))
      go_ret
      exact ⟨by first | rfl | (simp [errW_none, errW_some] <;> rfl) | (simp [*, errW_none, errW_some] <;> rfl), by repeat (first | (with_reducible first | exact HB.out | apply below_alloc | apply pw_below_drewN | apply below_drew1) | exact HB.out)⟩
    · rw [if_neg c4] at H
      exact absurd H (by simp)
  · rw [if_neg c3] at H
    exact absurd H (by simp)

/-! ### ladderbacklaw45_PowerPaths: function 4 -/
def ladderbacklaw45_PowerPaths.f (k : Nat) (l0 : List (S40)) (l1 : List Bool) : Option (Bool) := (ladderbackref45_Few.f k l0 14).bind fun t177 => (if t177 = true then ((power_Flows.f l0 l1).bind fun t178 => ((ladderbackref45_Flows.f k l0 l1).bind fun t179 => (if (t178 == t179) = true then ((ladderbacklaw45_awake.f).bind fun t180 => (some t180)) else (some false)))) else ((ladderbacklaw45_awake.f).bind fun t181 => (some t181)))
set_option maxHeartbeats 8000000 in
set_option maxRecDepth 100000 in
theorem ladderbacklaw45_PowerPaths.calls (k : Nat) (A0 : Option Addr) (c0 : Nat) (l0 : List (S40)) (A1 : Option Addr) (c1 : Nat) (l1 : List Bool) (r : Bool) (w : World) (hr0 : Kd.C k40 w A0 l0.length l0) (hc0 : l0.length ≤ c0) (hr1 : Kd.C Kd.bool w A1 l1.length l1) (hc1 : l1.length ≤ c1) (h : ladderbacklaw45_PowerPaths.f k l0 l1 = some r) :
    Calls Try.prog 4 #[.slice A0 l0.length c0, .slice A1 l1.length c1] w fun e w' => e = .returned (.bool r) ∧ Below w.heap.size w w' := by
  have HR0 := Aside0.mk hr0
  have HC0 := Aside0.mk hc0
  clear hr0 hc0
  have HR1 := Aside0.mk hr1
  have HC1 := Aside0.mk hc1
  clear hr1 hc1
  have HB := Aside0.mk (Below.refl w.heap.size w)
  have H : ((ladderbackref45_Few.f k l0 14).bind fun t177 => (if t177 = true then ((power_Flows.f l0 l1).bind fun t178 => ((ladderbackref45_Flows.f k l0 l1).bind fun t179 => (if (t178 == t179) = true then ((ladderbacklaw45_awake.f).bind fun t180 => (some t180)) else (some false)))) else ((ladderbacklaw45_awake.f).bind fun t181 => (some t181)))) = some r := h
  clear h
  replace H := Option.bind_eq_some_iff.mp H
  obtain ⟨t177, A30, H⟩ := H
  replace H : (if t177 = true then ((power_Flows.f l0 l1).bind fun t178 => ((ladderbackref45_Flows.f k l0 l1).bind fun t179 => (if (t178 == t179) = true then ((ladderbacklaw45_awake.f).bind fun t180 => (some t180)) else (some false)))) else ((ladderbacklaw45_awake.f).bind fun t181 => (some t181))) = some r := H
  have A3 := Aside0.mk A30
  clear A30
  by_cases c4 : t177 = true
  · subst c4
    have H1 : ((power_Flows.f l0 l1).bind fun t178 => ((ladderbackref45_Flows.f k l0 l1).bind fun t179 => (if (t178 == t179) = true then ((ladderbacklaw45_awake.f).bind fun t180 => (some t180)) else (some false)))) = some r := by rw [if_pos rfl] at H; exact H
    clear H
    have H := H1
    clear H1
    replace H := Option.bind_eq_some_iff.mp H
    obtain ⟨t178, A50, H⟩ := H
    replace H : ((ladderbackref45_Flows.f k l0 l1).bind fun t179 => (if (t178 == t179) = true then ((ladderbacklaw45_awake.f).bind fun t180 => (some t180)) else (some false))) = some r := H
    have A5 := Aside0.mk A50
    clear A50
    replace H := Option.bind_eq_some_iff.mp H
    obtain ⟨t179, A60, H⟩ := H
    replace H : (if (t178 == t179) = true then ((ladderbacklaw45_awake.f).bind fun t180 => (some t180)) else (some false)) = some r := H
    have A6 := Aside0.mk A60
    clear A60
    by_cases c7 : (t178 == t179) = true
    · rw [if_pos c7] at H
      have c7b0 : (t178 == t179) = true := c7
      (try (have c7b1 : decide (t178 = t179) = true := by simpa using c7))
      (try (have c7b2 : (t178 == t179) = true := by simpa using c7))
      clear c7
      replace H := Option.bind_eq_some_iff.mp H
      obtain ⟨t180, A80, H⟩ := H
      replace H : (some t180) = some r := H
      have A8 := Aside0.mk A80
      clear A80
      obtain rfl := Option.some.inj H
      go_enter Try.func4, Try.ntmps4
      go_wp2_with (first | ((with_reducible refine gate_callee (f := 11) rfl ?_); refine goesL_ (some 6) rfl rfl Try.func11 (by kernel_rfl) rfl #[.slice A0 l0.length c0, .int .i64 14] rfl (by (try simp only [List.map_toArray, List.map_cons, List.map_nil]); first | done | rfl | (simp only [List.length_drop, List.length_take]; rfl)) ?_; (with_reducible refine (ladderbackref45_Few.calls k _ _ l0 14 true _ ?side1 ?side2 A3.out).mono ?_); (case side1 => repeat (first | exact HR0.out | (with_reducible refine Kd.C_alloc ?_ _) | (with_reducible refine Kd.C_drewN ?_ _) | (with_reducible refine Kd.C_drew ?_))); (case side2 => exact HC0.out); rintro e w9 ⟨rfl, hb⟩; refine ⟨_, rfl, ?_⟩; have n0_ := Aside0.mk (below_step (by repeat (first | (with_reducible first | exact HB.out | apply below_alloc | apply pw_below_drewN | apply below_drew1) | exact HB.out)) hb); clear HB; have HB := n0_; clear n0_; (try clear hb); (try clear hb2); (try clear hk); (try clear hi)) | ((with_reducible refine gate_callee (f := 13) rfl ?_); refine goesL_ (some 11) rfl rfl Try.func13 (by kernel_rfl) rfl #[.slice A0 l0.length c0, .slice A1 l1.length c1] rfl (by (try simp only [List.map_toArray, List.map_cons, List.map_nil]); first | done | rfl | (simp only [List.length_drop, List.length_take]; rfl)) ?_; (with_reducible refine (power_Flows.calls _ _ l0 _ _ l1 t178 _ ?side1 ?side2 ?side3 ?side4 A5.out).mono ?_); (case side1 => repeat (first | exact (Kd.C_below HR0.out HB.out) | (with_reducible refine Kd.C_alloc ?_ _) | (with_reducible refine Kd.C_drewN ?_ _) | (with_reducible refine Kd.C_drew ?_))); (case side2 => exact HC0.out); (case side3 => repeat (first | exact (Kd.C_below HR1.out HB.out) | (with_reducible refine Kd.C_alloc ?_ _) | (with_reducible refine Kd.C_drewN ?_ _) | (with_reducible refine Kd.C_drew ?_))); (case side4 => exact HC1.out); rintro e w10 ⟨rfl, hb⟩; refine ⟨_, rfl, ?_⟩; have n0_ := Aside0.mk (below_step (by repeat (first | (with_reducible first | exact HB.out | apply below_alloc | apply pw_below_drewN | apply below_drew1) | exact HB.out)) hb); clear HB; have HB := n0_; clear n0_; (try clear hb); (try clear hb2); (try clear hk); (try clear hi)) | ((with_reducible refine gate_callee (f := 14) rfl ?_); refine goesL_ (some 14) rfl rfl Try.func14 (by kernel_rfl) rfl #[.slice A0 l0.length c0, .slice A1 l1.length c1] rfl (by (try simp only [List.map_toArray, List.map_cons, List.map_nil]); first | done | rfl | (simp only [List.length_drop, List.length_take]; rfl)) ?_; (with_reducible refine (ladderbackref45_Flows.calls k _ _ l0 _ _ l1 t179 _ ?side1 ?side2 ?side3 ?side4 A6.out).mono ?_); (case side1 => repeat (first | exact (Kd.C_below HR0.out HB.out) | (with_reducible refine Kd.C_alloc ?_ _) | (with_reducible refine Kd.C_drewN ?_ _) | (with_reducible refine Kd.C_drew ?_))); (case side2 => exact HC0.out); (case side3 => repeat (first | exact (Kd.C_below HR1.out HB.out) | (with_reducible refine Kd.C_alloc ?_ _) | (with_reducible refine Kd.C_drewN ?_ _) | (with_reducible refine Kd.C_drew ?_))); (case side4 => exact HC1.out); rintro e w11 ⟨rfl, hb⟩; refine ⟨_, rfl, ?_⟩; have n0_ := Aside0.mk (below_step (by repeat (first | (with_reducible first | exact HB.out | apply below_alloc | apply pw_below_drewN | apply below_drew1) | exact HB.out)) hb); clear HB; have HB := n0_; clear n0_; (try clear hb); (try clear hb2); (try clear hk); (try clear hi)) | (go_at_call 12; (with_reducible refine (ladderbacklaw45_awake.calls  t180 _ A8.out).mono ?_); rintro e w12 ⟨rfl, hb⟩; have n0_ := Aside0.mk (below_step (by repeat (first | (with_reducible first | exact HB.out | apply below_alloc | apply pw_below_drewN | apply below_drew1) | exact HB.out)) hb); clear HB; have HB := n0_; clear n0_; (try clear hb); (try clear hb2); (try clear hk); (try clear hi)))
      go_ret
      exact ⟨by first | rfl | (simp [errW_none, errW_some] <;> rfl) | (simp [*, errW_none, errW_some] <;> rfl), by repeat (first | (with_reducible first | exact HB.out | apply below_alloc | apply pw_below_drewN | apply below_drew1) | exact HB.out)⟩
    · rw [if_neg c7] at H
      have c7b0 : (t178 == t179) = false := by simpa using c7
      (try (have c7b1 : decide (t178 = t179) = false := by simpa using c7))
      (try (have c7b2 : (t178 == t179) = false := by simpa using c7))
      (try (have c7b3 : ¬ (t178 = t179) := by simpa using c7))
      clear c7
      obtain rfl := Option.some.inj H
      go_enter Try.func4, Try.ntmps4
      go_wp2_with (first | ((with_reducible refine gate_callee (f := 11) rfl ?_); refine goesL_ (some 6) rfl rfl Try.func11 (by kernel_rfl) rfl #[.slice A0 l0.length c0, .int .i64 14] rfl (by (try simp only [List.map_toArray, List.map_cons, List.map_nil]); first | done | rfl | (simp only [List.length_drop, List.length_take]; rfl)) ?_; (with_reducible refine (ladderbackref45_Few.calls k _ _ l0 14 true _ ?side1 ?side2 A3.out).mono ?_); (case side1 => repeat (first | exact HR0.out | (with_reducible refine Kd.C_alloc ?_ _) | (with_reducible refine Kd.C_drewN ?_ _) | (with_reducible refine Kd.C_drew ?_))); (case side2 => exact HC0.out); rintro e w13 ⟨rfl, hb⟩; refine ⟨_, rfl, ?_⟩; have n0_ := Aside0.mk (below_step (by repeat (first | (with_reducible first | exact HB.out | apply below_alloc | apply pw_below_drewN | apply below_drew1) | exact HB.out)) hb); clear HB; have HB := n0_; clear n0_; (try clear hb); (try clear hb2); (try clear hk); (try clear hi)) | ((with_reducible refine gate_callee (f := 13) rfl ?_); refine goesL_ (some 11) rfl rfl Try.func13 (by kernel_rfl) rfl #[.slice A0 l0.length c0, .slice A1 l1.length c1] rfl (by (try simp only [List.map_toArray, List.map_cons, List.map_nil]); first | done | rfl | (simp only [List.length_drop, List.length_take]; rfl)) ?_; (with_reducible refine (power_Flows.calls _ _ l0 _ _ l1 t178 _ ?side1 ?side2 ?side3 ?side4 A5.out).mono ?_); (case side1 => repeat (first | exact (Kd.C_below HR0.out HB.out) | (with_reducible refine Kd.C_alloc ?_ _) | (with_reducible refine Kd.C_drewN ?_ _) | (with_reducible refine Kd.C_drew ?_))); (case side2 => exact HC0.out); (case side3 => repeat (first | exact (Kd.C_below HR1.out HB.out) | (with_reducible refine Kd.C_alloc ?_ _) | (with_reducible refine Kd.C_drewN ?_ _) | (with_reducible refine Kd.C_drew ?_))); (case side4 => exact HC1.out); rintro e w14 ⟨rfl, hb⟩; refine ⟨_, rfl, ?_⟩; have n0_ := Aside0.mk (below_step (by repeat (first | (with_reducible first | exact HB.out | apply below_alloc | apply pw_below_drewN | apply below_drew1) | exact HB.out)) hb); clear HB; have HB := n0_; clear n0_; (try clear hb); (try clear hb2); (try clear hk); (try clear hi)) | ((with_reducible refine gate_callee (f := 14) rfl ?_); refine goesL_ (some 14) rfl rfl Try.func14 (by kernel_rfl) rfl #[.slice A0 l0.length c0, .slice A1 l1.length c1] rfl (by (try simp only [List.map_toArray, List.map_cons, List.map_nil]); first | done | rfl | (simp only [List.length_drop, List.length_take]; rfl)) ?_; (with_reducible refine (ladderbackref45_Flows.calls k _ _ l0 _ _ l1 t179 _ ?side1 ?side2 ?side3 ?side4 A6.out).mono ?_); (case side1 => repeat (first | exact (Kd.C_below HR0.out HB.out) | (with_reducible refine Kd.C_alloc ?_ _) | (with_reducible refine Kd.C_drewN ?_ _) | (with_reducible refine Kd.C_drew ?_))); (case side2 => exact HC0.out); (case side3 => repeat (first | exact (Kd.C_below HR1.out HB.out) | (with_reducible refine Kd.C_alloc ?_ _) | (with_reducible refine Kd.C_drewN ?_ _) | (with_reducible refine Kd.C_drew ?_))); (case side4 => exact HC1.out); rintro e w15 ⟨rfl, hb⟩; refine ⟨_, rfl, ?_⟩; have n0_ := Aside0.mk (below_step (by repeat (first | (with_reducible first | exact HB.out | apply below_alloc | apply pw_below_drewN | apply below_drew1) | exact HB.out)) hb); clear HB; have HB := n0_; clear n0_; (try clear hb); (try clear hb2); (try clear hk); (try clear hi)))
      go_ret
      exact ⟨by first | rfl | (simp [errW_none, errW_some] <;> rfl) | (simp [*, errW_none, errW_some] <;> rfl), by repeat (first | (with_reducible first | exact HB.out | apply below_alloc | apply pw_below_drewN | apply below_drew1) | exact HB.out)⟩
  · replace c4 := Bool.eq_false_iff.mpr c4
    subst c4
    have H1 : ((ladderbacklaw45_awake.f).bind fun t181 => (some t181)) = some r := by rw [if_neg (show ¬ (false = true) by decide)] at H; exact H
    clear H
    have H := H1
    clear H1
    replace H := Option.bind_eq_some_iff.mp H
    obtain ⟨t181, A160, H⟩ := H
    replace H : (some t181) = some r := H
    have A16 := Aside0.mk A160
    clear A160
    obtain rfl := Option.some.inj H
    go_enter Try.func4, Try.ntmps4
    go_wp2_with (first | ((with_reducible refine gate_callee (f := 11) rfl ?_); refine goesL_ (some 6) rfl rfl Try.func11 (by kernel_rfl) rfl #[.slice A0 l0.length c0, .int .i64 14] rfl (by (try simp only [List.map_toArray, List.map_cons, List.map_nil]); first | done | rfl | (simp only [List.length_drop, List.length_take]; rfl)) ?_; (with_reducible refine (ladderbackref45_Few.calls k _ _ l0 14 false _ ?side1 ?side2 A3.out).mono ?_); (case side1 => repeat (first | exact HR0.out | (with_reducible refine Kd.C_alloc ?_ _) | (with_reducible refine Kd.C_drewN ?_ _) | (with_reducible refine Kd.C_drew ?_))); (case side2 => exact HC0.out); rintro e w17 ⟨rfl, hb⟩; refine ⟨_, rfl, ?_⟩; have n0_ := Aside0.mk (below_step (by repeat (first | (with_reducible first | exact HB.out | apply below_alloc | apply pw_below_drewN | apply below_drew1) | exact HB.out)) hb); clear HB; have HB := n0_; clear n0_; (try clear hb); (try clear hb2); (try clear hk); (try clear hi)) | ((with_reducible refine gate_callee (f := 12) rfl ?_); refine goesL_ (some 8) rfl rfl Try.func12 (by kernel_rfl) rfl #[] rfl (by (try simp only [List.map_toArray, List.map_cons, List.map_nil]); first | done | rfl | (simp only [List.length_drop, List.length_take]; rfl)) ?_; (with_reducible refine (ladderbacklaw45_awake.calls  t181 _ A16.out).mono ?_); rintro e w18 ⟨rfl, hb⟩; refine ⟨_, rfl, ?_⟩; have n0_ := Aside0.mk (below_step (by repeat (first | (with_reducible first | exact HB.out | apply below_alloc | apply pw_below_drewN | apply below_drew1) | exact HB.out)) hb); clear HB; have HB := n0_; clear n0_; (try clear hb); (try clear hb2); (try clear hk); (try clear hi)))
    go_ret
    exact ⟨by first | rfl | (simp [errW_none, errW_some] <;> rfl) | (simp [*, errW_none, errW_some] <;> rfl), by repeat (first | (with_reducible first | exact HB.out | apply below_alloc | apply pw_below_drewN | apply below_drew1) | exact HB.out)⟩

end Go.Proofs.Ytnfnhgikhkpidaa.PPw
end

section
/- The document's Few always answers; where it says yes, there are at most 14 wires. -/
namespace Go.Proofs.Ytnfnhgikhkpidaa.Given
open Go Go.RowKit Go.Proofs.Ytnfnhgikhkpidaa Go.Proofs.Ytnfnhgikhkpidaa.PPw Go.Proofs.YtnfnhgikhkpidaaW.PrintWords Go.Proofs.YtnfnhgikhkpidaaW.PrintLast Go.Proofs.YtnfnhgikhkpidaaW.PrintMore
set_option linter.unusedVariables false
set_option linter.unusedSimpArgs false
theorem wrap_s {n : Int} (h0 : -100000 ≤ n) (h1 : n ≤ 100000) : wrap64 n = n := by unfold wrap64; omega
/-- Room answers, and takes one at least. -/
theorem room_total (d : Nat) : ∀ (a1 a2 : Int) (e0 e1 e2 e3 : Int) (l : List S27), a1 ≤ 1000 → -1000 ≤ a1 → a2 ≤ d → -1000 ≤ a2 → d ≤ 1000 → ∃ k0 r, (∀ K, k0 ≤ K → ladderbackref26_Room.f K e0 e1 e2 e3 l a1 a2 = some r) ∧ -1 ≤ r ∧ (r = -1 ∨ r < a1) := by
  induction d with
  | zero =>
    intro a1 a2 e0 e1 e2 e3 l h1 h2 h3 h4 _
    refine ⟨2, -1, fun K hK => ?_, by omega, .inl rfl⟩
    obtain ⟨K, rfl⟩ : ∃ m, K = m + 2 := ⟨K - 2, by omega⟩
    rw [ladderbackref26_Room.f]
    by_cases c : a1 < 1
    · rw [if_pos c, ladderbackref26_Room.j0, if_pos rfl]
    · rw [if_neg c, decide_eq_true (by omega : a2 < 1), ladderbackref26_Room.j0, if_pos rfl]
  | succ d ih =>
    intro a1 a2 e0 e1 e2 e3 l h1 h2 h3 h4 hd
    by_cases c : a1 < 1 ∨ a2 < 1
    · refine ⟨2, -1, fun K hK => ?_, by omega, .inl rfl⟩
      obtain ⟨K, rfl⟩ : ∃ m, K = m + 2 := ⟨K - 2, by omega⟩
      rw [ladderbackref26_Room.f]
      by_cases c1 : a1 < 1
      · rw [if_pos c1, ladderbackref26_Room.j0, if_pos rfl]
      · rw [if_neg c1, decide_eq_true (by omega : a2 < 1), ladderbackref26_Room.j0, if_pos rfl]
    · have loop : ∀ (n : Nat) (x1 : Int) (i : Nat), x1 = n → i + n ≤ 1000 → ∃ k0 r, (∀ K, k0 ≤ K → ladderbackref26_Room.l0 K x1 a2 (i : Int) e0 e1 e2 e3 l = some r) ∧ -1 ≤ r ∧ (r = -1 ∨ r ≤ x1) := by
        intro n
        induction n using Nat.strongRecOn with
        | ind n ihn =>
          intro x1 i hx hi
          by_cases ci : (i : Int) < (l.length : Int)
          · obtain ⟨k1, t, ht, t1, t2⟩ := ih x1 (a2 - 1) (rd_T27 l i).f0 (rd_T27 l i).f1 (rd_T27 l i).f2 (rd_T27 l i).f3 (rd_T27 l i).f4 (by omega) (by omega) (by omega) (by omega) (by omega)
            have start : ∀ K, k1 ≤ K → ladderbackref26_Room.l0 (K + 1) x1 a2 (i : Int) e0 e1 e2 e3 l = (if t < 0 then (some (-1)) else (ladderbackref26_Room.l0 K t a2 ((i + 1 : Nat) : Int) e0 e1 e2 e3 l)) := fun K hK => by
              rw [ladderbackref26_Room.l0, if_pos ci, if_pos (by omega), wrap_s (by omega) (by omega), ht K hK, Option.bind_some, wrap_s (n := (i : Int) + 1) (by omega) (by omega)]
              rfl
            by_cases ct : t < 0
            · refine ⟨k1 + 1, -1, fun K hK => ?_, by omega, .inl rfl⟩
              obtain ⟨K, rfl⟩ : ∃ m, K = m + 1 := ⟨K - 1, by omega⟩
              rw [start K (by omega), if_pos ct]
            · have tn : t < x1 := by omega
              obtain ⟨k2, r, hr, r1, r2⟩ := ihn t.toNat (by omega) t (i + 1) (by omega) (by omega)
              refine ⟨k1 + k2 + 1, r, fun K hK => ?_, r1, by omega⟩
              obtain ⟨K, rfl⟩ : ∃ m, K = m + 1 := ⟨K - 1, by omega⟩
              rw [start K (by omega), if_neg ct]
              exact hr K (by omega)
          · refine ⟨1, x1, fun K hK => ?_, by omega, .inr (by omega)⟩
            obtain ⟨K, rfl⟩ : ∃ m, K = m + 1 := ⟨K - 1, by omega⟩
            rw [ladderbackref26_Room.l0, if_neg ci]
      obtain ⟨k1, r, hr, r1, r2⟩ := loop (a1 - 1).toNat (a1 - 1) 0 (by omega) (by omega)
      refine ⟨k1 + 2, r, fun K hK => ?_, r1, by omega⟩
      obtain ⟨K, rfl⟩ : ∃ m, K = m + 2 := ⟨K - 2, by omega⟩
      rw [ladderbackref26_Room.f, if_neg (by omega), decide_eq_false (by omega : ¬ a2 < 1), ladderbackref26_Room.j0, if_neg (by decide), wrap_s (by omega) (by omega)]
      exact hr K (by omega)
theorem few26 (e0 e1 e2 e3 : Int) (l : List S27) : ∃ k0 b, ∀ K, k0 ≤ K → ladderbackref26_Few.f K e0 e1 e2 e3 l 30 = some b := by
  obtain ⟨k0, r, hr, _⟩ := room_total 40 30 40 e0 e1 e2 e3 l (by omega) (by omega) (by omega) (by omega) (by omega)
  exact ⟨k0, decide (r ≥ 0), fun K hK => by unfold ladderbackref26_Few.f; rw [hr K hK]; rfl⟩
theorem few44 (e0 e1 e2 e3 : Int) (l : List S27) : ∃ k0 b, ∀ K, k0 ≤ K → ladderbackref44_Few.f K 0 0 e0 e1 e2 e3 l ([] : List S60) 2 = some b := by
  obtain ⟨k0, b, hb⟩ := few26 e0 e1 e2 e3 l
  refine ⟨k0 + 3, b, fun K hK => ?_⟩
  obtain ⟨K, rfl⟩ : ∃ m, K = m + 3 := ⟨K - 3, by omega⟩
  unfold ladderbackref44_Few.f
  rw [show K + 3 = (K + 2) + 1 from rfl, ladderbackref44_room.f, if_neg (by decide), if_neg (by decide), hb (K + 2) (by omega), Option.bind_some, show K + 2 = (K + 1) + 1 from rfl, ladderbackref44_room.j0]
  cases b
  · rw [if_pos (by rfl)]; rfl
  · rw [if_neg (by decide), ladderbackref44_room.l0, if_neg (by decide), wrap_s (by decide) (by decide)]; rfl
theorem few_total (l : List S40) : ∃ k0 b, (∀ K, k0 ≤ K → ladderbackref45_Few.f K l 14 = some b) ∧ (b = true → l.length ≤ 14) := by
  have loop : ∀ (n i : Nat), i + n = 14 → ∃ k0 b, (∀ K, k0 ≤ K → ladderbackref45_Few.l0 K l 14 (i : Int) = some b) ∧ (b = true → l.length ≤ 14) := by
    intro n
    induction n with
    | zero =>
      intro i hi
      by_cases c : (i : Int) < (l.length : Int)
      · refine ⟨1, false, fun K hK => ?_, fun h => by cases h⟩
        obtain ⟨K, rfl⟩ : ∃ m, K = m + 1 := ⟨K - 1, by omega⟩
        rw [ladderbackref45_Few.l0, if_pos c, if_pos (by omega)]
      · refine ⟨1, true, fun K hK => ?_, fun _ => by omega⟩
        obtain ⟨K, rfl⟩ : ∃ m, K = m + 1 := ⟨K - 1, by omega⟩
        rw [ladderbackref45_Few.l0, if_neg c]
    | succ n ih =>
      intro i hi
      by_cases c : (i : Int) < (l.length : Int)
      · obtain ⟨k1, b1, h1⟩ := few44 (rd_T40 l i).f3.f0 (rd_T40 l i).f3.f1 (rd_T40 l i).f3.f2 (rd_T40 l i).f3.f3 (rd_T40 l i).f3.f4
        obtain ⟨k2, b2, h2, h3⟩ := ih (i + 1) (by omega)
        have start : ∀ K, k1 ≤ K → ladderbackref45_Few.l0 (K + 1) l 14 (i : Int) = (if b1 = true then ladderbackref45_Few.l0 K l 14 ((i + 1 : Nat) : Int) else some false) := fun K hK => by
          rw [ladderbackref45_Few.l0, if_pos c, if_neg (by omega), if_pos (by omega), h1 K hK, Option.bind_some, wrap_s (n := (i : Int) + 1) (by omega) (by omega)]
          rfl
        cases b1
        · refine ⟨k1 + 1, false, fun K hK => ?_, fun h => by cases h⟩
          obtain ⟨K, rfl⟩ : ∃ m, K = m + 1 := ⟨K - 1, by omega⟩
          rw [start K (by omega), if_neg (by decide)]
        · refine ⟨k1 + k2 + 1, b2, fun K hK => ?_, h3⟩
          obtain ⟨K, rfl⟩ : ∃ m, K = m + 1 := ⟨K - 1, by omega⟩
          rw [start K (by omega), if_pos rfl]
          exact h2 K (by omega)
      · refine ⟨1, true, fun K hK => ?_, fun _ => by omega⟩
        obtain ⟨K, rfl⟩ : ∃ m, K = m + 1 := ⟨K - 1, by omega⟩
        rw [ladderbackref45_Few.l0, if_neg c]
  obtain ⟨k0, b, h, hb⟩ := loop 14 0 (by omega)
  exact ⟨k0, b, fun K hK => by unfold ladderbackref45_Few.f; exact h K hK, hb⟩
end Go.Proofs.Ytnfnhgikhkpidaa.Given
end

section
/- The document's answer on whether power flows: it tells whether 1 is reached from 0; at most 1000 wires. -/
namespace Go.Proofs.Ytnfnhgikhkpidaa.Given
open Go Go.RowKit Go.Proofs.Ytnfnhgikhkpidaa Go.Proofs.Ytnfnhgikhkpidaa.Pow Go.Proofs.Ytnfnhgikhkpidaa.PPw Go.Proofs.YtnfnhgikhkpidaaW.PrintWords Go.Proofs.YtnfnhgikhkpidaaW.PrintLast Go.Proofs.YtnfnhgikhkpidaaW.PrintMore
set_option linter.unusedVariables false
set_option linter.unusedSimpArgs false
theorem w64p (i : Nat) (h : i ≤ 100000) : wrap64 ((i : Int) + 1) = ((i + 1 : Nat) : Int) := by unfold wrap64; omega
theorem rdw (l : List W40) (i : Nat) : ends (rd_T40 l (i : Int)) = (l.map ends).getD i (0, 0) := by
  unfold rd_T40
  rw [Int.toNat_natCast, List.getD_eq_getElem?_getD, List.getD_eq_getElem?_getD, List.getElem?_map]
  cases l[i]? <;> rfl
set_option maxHeartbeats 1000000 in
theorem sim (l : List W40) (cl : List Bool) (tgt : Int) (hl : l.length ≤ 1000) : ∀ k,
    (∀ s T r, T.length = l.length → pathF (l.map ends) cl tgt k s T = some r → r.2.length = l.length ∧ ∀ K, 3 * k ≤ K → ladderbackref45_Path.f K l cl s tgt T = some r) ∧
    (∀ s T i r, T.length = l.length → i ≤ l.length → loopF (l.map ends) cl tgt k s T i = some r → r.2.length = l.length ∧ ∀ K, 3 * k ≤ K → ladderbackref45_Path.l0 K l cl s tgt T (i : Int) = some r) := by
  intro k
  induction k with
  | zero => exact ⟨(fun s T r _ h => by rw [pathF] at h; cases h), (fun s T i r _ _ h => by rw [loopF] at h; cases h)⟩
  | succ k ih =>
    refine ⟨fun s T r hT h => ?_, fun s T i r hT hi h => ?_⟩
    · rw [pathF] at h
      by_cases hs : s = tgt
      · rw [if_pos hs] at h
        obtain rfl := Option.some.inj h
        refine ⟨hT, fun K hK => ?_⟩
        obtain ⟨K, rfl⟩ : ∃ m, K = m + 1 := ⟨K - 1, by omega⟩
        rw [ladderbackref45_Path.f, if_pos hs]
      · rw [if_neg hs] at h
        obtain ⟨h1, h2⟩ := ih.2 s T 0 r hT (Nat.zero_le _) h
        refine ⟨h1, fun K hK => ?_⟩
        obtain ⟨K, rfl⟩ : ∃ m, K = m + 1 := ⟨K - 1, by omega⟩
        rw [ladderbackref45_Path.f, if_neg hs]
        exact h2 K (by omega)
    · rw [loopF] at h
      have hrd := rdw l i
      rw [List.length_map] at h
      by_cases hin : i < l.length ∧ i < cl.length
      · rw [if_pos hin] at h
        rw [← hrd] at h
        have hc : cl.getD i false = rdOf false cl (i : Int) := rfl
        have ht : T.getD i false = rdOf false T (i : Int) := rfl
        rw [hc, ht] at h
        obtain ⟨x, hx⟩ : ∃ x, rd_T40 l (i : Int) = x := ⟨_, rfl⟩
        rw [hx] at h
        have start : ∀ K, ladderbackref45_Path.l0 (K + 2) l cl s tgt T (i : Int) = (if rdOf false cl (i : Int) = true then (if rdOf false T (i : Int) = true then (ladderbackref45_Path.j2 K l cl s tgt T (i : Int) true) else (if x.f0 = s then (ladderbackref45_Path.j2 K l cl s tgt T (i : Int) false) else (ladderbackref45_Path.j2 K l cl s tgt T (i : Int) (x.f1 != s)))) else (ladderbackref45_Path.j2 K l cl s tgt T (i : Int) true)) := fun K => by
          rw [ladderbackref45_Path.l0, if_pos (by omega), decide_eq_true (by omega), ladderbackref45_Path.j1, if_pos rfl, if_pos (by omega), if_pos (by omega), if_pos (show (i : Int) < (T.length : Int) by omega), if_pos (show (i : Int) < (l.length : Int) by omega), hx]
        have skip : ∀ K, ladderbackref45_Path.j2 (K + 1) l cl s tgt T (i : Int) true = ladderbackref45_Path.l0 K l cl s tgt T ((i + 1 : Nat) : Int) := fun K => by
          rw [ladderbackref45_Path.j2, if_pos rfl, w64p i (by omega)]
        split at h
        · rename_i hcase
          obtain ⟨h1, h2⟩ := ih.2 s T (i + 1) r hT (by omega) h
          refine ⟨h1, fun K hK => ?_⟩
          obtain ⟨K, rfl⟩ : ∃ m, K = m + 3 := ⟨K - 3, by omega⟩
          rw [show K + 3 = (K + 1) + 2 from rfl, start]
          by_cases hA : rdOf false cl (i : Int) = true
          · rw [if_pos hA]
            by_cases hB : rdOf false T (i : Int) = true
            · rw [if_pos hB, skip]; exact h2 K (by omega)
            · rw [if_neg hB]
              rcases hcase with h3 | h3 | ⟨h3, h4⟩
              · rw [h3] at hA; cases hA
              · exact absurd h3 hB
              · rw [if_neg (show ¬ x.f0 = s from h3), show (x.f1 != s) = true by simpa using (show x.f1 ≠ s from h4), skip]; exact h2 K (by omega)
          · rw [if_neg hA, skip]; exact h2 K (by omega)
        · rename_i hcase
          have hc1 : rdOf false cl (i : Int) = true := by
            cases h5 : rdOf false cl (i : Int) with
            | true => rfl
            | false => exact absurd (.inl h5) hcase
          have ht1 : ¬ rdOf false T (i : Int) = true := fun h5 => hcase (.inr (.inl h5))
          have hto : x.f0 = s ∨ x.f1 = s := Classical.byContradiction fun h5 => hcase (.inr (.inr ⟨fun h6 => h5 (.inl h6), fun h6 => h5 (.inr h6)⟩))
          obtain ⟨q, hq, h⟩ := Option.bind_eq_some_iff.1 h
          obtain ⟨q1, q2⟩ := ih.1 _ _ _ (by rw [List.length_set]; exact hT) hq
          have go : ∀ K, ladderbackref45_Path.j2 (K + 1) l cl s tgt T (i : Int) false = (ladderbackref45_Path.f K l cl (otherP (ends x) s) tgt (T.set i true)).bind fun b => if b.1 = true then some (true, b.2) else ladderbackref45_Path.l0 K l cl s tgt b.2 ((i + 1 : Nat) : Int) := fun K => by
            have hT2 : (i : Int) < (T.length : Int) := by omega
            rw [ladderbackref45_Path.j2, if_neg (by decide), if_pos (by omega), if_pos (by omega), hx, w64p i (by omega), Int.toNat_natCast]
            simp only [if_pos hT2]
            unfold otherP ends
            dsimp only
            split <;> rfl
          have mid : ∀ K, ladderbackref45_Path.l0 (K + 3) l cl s tgt T (i : Int) = (ladderbackref45_Path.f K l cl (otherP (ends x) s) tgt (T.set i true)).bind fun b => if b.1 = true then some (true, b.2) else ladderbackref45_Path.l0 K l cl s tgt b.2 ((i + 1 : Nat) : Int) := fun K => by
            rw [show K + 3 = (K + 1) + 2 from rfl, start, if_pos hc1, if_neg ht1]
            by_cases h5 : x.f0 = s
            · rw [if_pos h5, go]
            · rw [if_neg h5, show (x.f1 != s) = false by simpa using hto.resolve_left h5, go]
          by_cases hb : q.1 = true
          · rw [if_pos hb] at h
            obtain rfl := Option.some.inj h
            refine ⟨q1, fun K hK => ?_⟩
            obtain ⟨K, rfl⟩ : ∃ m, K = m + 3 := ⟨K - 3, by omega⟩
            rw [mid, q2 K (by omega), Option.bind_some, if_pos hb]
            exact congrArg some (Prod.ext hb.symm rfl)
          · rw [if_neg hb] at h
            obtain ⟨h1, h2⟩ := ih.2 s q.2 (i + 1) r q1 (by omega) h
            refine ⟨h1, fun K hK => ?_⟩
            obtain ⟨K, rfl⟩ : ∃ m, K = m + 3 := ⟨K - 3, by omega⟩
            rw [mid, q2 K (by omega), Option.bind_some, if_neg hb]
            exact h2 K (by omega)
      · rw [if_neg hin] at h
        obtain rfl := Option.some.inj h
        refine ⟨hT, fun K hK => ?_⟩
        obtain ⟨K, rfl⟩ : ∃ m, K = m + 2 := ⟨K - 2, by omega⟩
        rw [ladderbackref45_Path.l0]
        split
        · rw [decide_eq_false (by omega), ladderbackref45_Path.j1, if_neg (by decide)]
        · rw [ladderbackref45_Path.j1, if_neg (by decide)]
theorem flows_doc (l : List W40) (cl : List Bool) (hl : l.length ≤ 1000) : ∃ b, (∀ K, 3 * ((l.length + 1) * (l.length + 2)) ≤ K → ladderbackref45_Flows.f K l cl = some b) ∧ (b = true ↔ Pow.Reach (edges (l.map ends) cl) 1) := by
  obtain ⟨r, h1, h2⟩ := path_flows (l.map ends) cl
  rw [List.length_map] at h1
  obtain ⟨_, h3⟩ := (sim l cl 1 hl ((l.length + 1) * (l.length + 2))).1 0 _ r List.length_replicate (h1 _ (Nat.le_refl _))
  refine ⟨r.1, fun K hK => ?_, h2⟩
  unfold ladderbackref45_Flows.f
  rw [if_pos (by omega), if_pos (by rw [Int.toNat_natCast]; omega), Int.toNat_natCast, h3 K hK, Option.bind_some]
end Go.Proofs.Ytnfnhgikhkpidaa.Given
end

section
/- PowerPaths over what is read as data. -/
namespace Go.Proofs.Ytnfnhgikhkpidaa
open Go Go.RowKit Go.Proofs.YtnfnhgikhkpidaaW.PrintWords Go.Proofs.Ytnfnhgikhkpidaa.PPw Go.Proofs.Ytnfnhgikhkpidaa.Given
set_option linter.unusedVariables false
theorem Bridge.Rdg.down {P : Program} {m n t : Nat} {α : Type} {d : Kd α} {wf : α → Prop} (h : Bridge.Rdg P m t d wf) (hn : n ≤ m) : Bridge.Rdg P n t d wf := ⟨h.1, fun H enc w base sp held fuel hm cs x hx => h.2 H enc w base sp held fuel (Nat.le_trans hm hn) cs x hx⟩
theorem Bridge.Rdg.slice0 {P : Program} {m t e : Nat} {α : Type} {d : Kd α} {wf : α → Prop} (hu : P.underlying t = some (.slice e)) (hc : P.cellsOf t = 1) (hd : Bridge.Rdg P m e d wf) : Bridge.Rdg P m t (Kd.slice e d) (fun l => ∀ a ∈ l, wf a) := by
  cases m with
  | zero => exact Bridge.Rdg.zero hc
  | succ m => exact Bridge.Rdg.slice hu hc (hd.down (Nat.le_succ m))
theorem rd_wint : Bridge.Rdga Try.prog 3 (Kd.int .i64) (fun a => (Lit.int .i64 a).wf = true) := Bridge.Rdg.int Try.underlying3 (by kernel_rfl)
theorem rd_expr : Bridge.Rdga Try.prog 27 k27 (fun _ => True) := Bridge.Rdg.fix (by kernel_rfl) (fun m d h =>
  Bridge.Rdg.imp (Bridge.Rdg.iso (fun x : S27 => (x.f0, x.f1, x.f2, x.f3, x.f4)) (fun p => ⟨p.1, p.2.1, p.2.2.1, p.2.2.2.1, p.2.2.2.2⟩) (fun _ => rfl)
    (Bridge.Rdg.struct Try.underlying27 (by kernel_rfl) (Bridge.RdgF.cons rfl (rd_wint m) (Bridge.RdgF.cons rfl (rd_wint m) (Bridge.RdgF.cons rfl (rd_wint m) (Bridge.RdgF.cons rfl (rd_wint m) (Bridge.RdgF.one rfl (Bridge.Rdg.slice0 Try.underlying25 (by kernel_rfl) h)))))))) (fun _ _ => trivial))
theorem in64_wf {n : Int} (h : (Lit.int .i64 n).wf = true) : in64 n := by
  have h2 : (decide ((-9223372036854775808 : Int) ≤ n) && decide (n ≤ 9223372036854775807)) = true := h
  simp only [Bool.and_eq_true, decide_eq_true_eq] at h2
  exact h2
theorem rd_wire : Bridge.Rdga Try.prog 40 k40 (fun x => in64 x.f0 ∧ in64 x.f1) := fun m =>
  Bridge.Rdg.imp (Bridge.Rdg.iso (fun x : S40 => (x.f0, x.f1, x.f2, x.f3)) (fun p => ⟨p.1, p.2.1, p.2.2.1, p.2.2.2⟩) (fun _ => rfl)
    (Bridge.Rdg.structa Try.underlying40 (by kernel_rfl) (fun m => Bridge.RdgF.cons rfl (rd_wint m) (Bridge.RdgF.cons rfl (rd_wint m) (Bridge.RdgF.cons rfl (rd_wint m) (Bridge.RdgF.one rfl (rd_expr m))))) m)) (fun x h => ⟨in64_wf h.1, in64_wf h.2.1⟩)
theorem rd_wires : Bridge.Rdga Try.prog 35 (Kd.slice 40 k40) (fun l => ∀ a ∈ l, in64 a.f0 ∧ in64 a.f1) := Bridge.Rdg.slicea Try.underlying35 (by kernel_rfl) rd_wire
theorem rd_wbools : Bridge.Rdga Try.prog 36 (Kd.slice 4 Kd.bool) (fun l => ∀ a ∈ l, True) := Bridge.Rdg.slicea Try.underlying36 (by kernel_rfl) (Bridge.Rdg.bool Try.underlying4 (by kernel_rfl))
theorem PowerPaths_law (l : List S40) (cl : List Bool) (hwf : ∀ x ∈ l, in64 x.f0 ∧ in64 x.f1) : ∃ k, ladderbacklaw45_PowerPaths.f k l cl = some true := by
  obtain ⟨k0, b, hb, hlen⟩ := few_total l
  cases b
  · refine ⟨k0, ?_⟩
    unfold ladderbacklaw45_PowerPaths.f
    rw [hb k0 (Nat.le_refl _), Option.bind_some, if_neg (by decide)]; rfl
  · have hl : l.length ≤ 14 := hlen rfl
    obtain ⟨b1, h1, t1⟩ := power_Flows.of (l := l) (cl := cl) ⟨by omega, hwf⟩
    obtain ⟨b2, h2, t2⟩ := flows_doc l cl (by omega)
    have hbb : b1 = b2 := by rw [Bool.eq_iff_iff, t1, t2]
    refine ⟨k0 + 3 * ((l.length + 1) * (l.length + 2)), ?_⟩
    unfold ladderbacklaw45_PowerPaths.f
    rw [hb _ (Nat.le_add_right _ _), Option.bind_some, if_pos rfl, h1, Option.bind_some, h2 _ (Nat.le_add_left _ _), Option.bind_some, if_pos (by rw [hbb]; simp)]; rfl
theorem PowerPaths_walk (A0 : Option Addr) (c0 : Nat) (l : List S40) (A1 : Option Addr) (c1 : Nat) (b : List Bool) (w : World) (hC0 : k40.C w A0 l.length l) (hle0 : l.length ≤ c0) (wf0 : ∀ a ∈ l, in64 a.f0 ∧ in64 a.f1) (hC1 : Kd.bool.C w A1 b.length b) (hle1 : b.length ≤ c1) (wf1 : ∀ a ∈ b, True) :
    Calls Try.prog 4 #[.slice A0 l.length c0, .slice A1 b.length c1] w fun e w' => e = .returned (.bool true) ∧ Below w.heap.size w w' := by
  obtain ⟨k, hk⟩ := PowerPaths_law l b wf0
  exact ladderbacklaw45_PowerPaths.calls k A0 c0 l A1 c1 b true w hC0 hle0 hC1 hle1 hk
end Go.Proofs.Ytnfnhgikhkpidaa
end

section
/- The law PowerPaths holds for every input: the walk over its code shows that the call returns true and that what was read stays as it was; the row follows. -/
namespace Go.Proofs.Ytnfnhgikhkpidaa.powerPathsRw
open Go.ChangeShapes Go.WideShapes Go.ChangeAt Go.RowKit
open Go.ChangeMaps (open_string shut_string)
open Go.Proofs.Ytnfnhgikhkpidaa.Bridge
set_option linter.unusedVariables false
set_option linter.unusedSimpArgs false
theorem own : ownKnob Try.prog.godebug = none := by kernel_rfl
theorem laidOut : laidOutB Try.prog = true := by kernel_rfl
set_option maxRecDepth 100000 in
theorem lifted (os : Os) (started : os.Started) (H : Type) (enc : TypeId × Value → H) :
    ReturnsInHanded {} Try.checked os 4 .any (Rows.powerPathsSpec.pre6 enc Try.prog Try.f4 Rows.powerPathsRow.domain false) (Rows.powerPathsSpec.post enc Try.prog Try.f4 false true false false) := by
  refine returnsInHanded_of_change_sized (C := Try.checked) own started (by kernel_rfl) Try.func4
    (ChangeSpec.witness6 (enc := enc) (C := Try.checked) false ⟨#[], #[.slice none 0 0, .slice none 0 0], []⟩ 8 (by kernel_rfl) (by kernel_rfl) (by kernel_rfl) (by kernel_rfl)) ?_
  intro W base args ds gs before hval0 hW hcnd hsz0 _
  have hval : ∀ (j : Nat) t v, Try.f4.params[j]? = some t → args[j]? = some v → Value.okWide Try.prog W .any base t v := hval0
  have hsz : (DataW.weightsEach Try.prog (Try.f4.params.toList ++ Rows.powerPathsSpec.plain.varTypes Try.prog) (ds ++ gs)).all (· ≤ reachBytes) = true := hsz0
  clear hval0 hsz0 hcnd
  have hW' := hW
  obtain ⟨p, q, hA0, hV, rfl, hfz, hnd⟩ := hW
  have hA : DataW.TrodAll enc Try.prog W 0 (fun _ => true) true Try.f4.params.toList args.toList ds p := hA0
  rw [Try.params4] at hA hval hsz
  obtain ⟨v0, vs0, d0, ds0, p0, q0, hargs, rfl, rfl, h0, r0⟩ := trodAll_cons hA
  obtain ⟨v1, vs1, d1, ds1, p1, q1, rfl, rfl, rfl, h1, r1⟩ := trodAll_cons r0
  obtain ⟨rfl, rfl, rfl⟩ := trodAll_nil r1
  obtain rfl : args = #[v0, v1] := by cases args; simp_all
  obtain ⟨rfl, rfl⟩ := trodVars_none hV
  clear hA0
  have k0 := h0
  have lt0 : ∀ x ∈ p0, x.block < W.heap.size := by obtain ⟨m, hm⟩ := k0; exact DataW.trod_lt m _ _ _ hm
  obtain ⟨A0, len0, c0, rfl⟩ := okWide_slice Try.underlying35 (hval 0 35 v0 rfl rfl)
  obtain ⟨x0, hk0, wf0⟩ := Rdga.trod rd_wires h0
  obtain ⟨A0', c0', he0, hle0, hC0⟩ := hk0
  simp only [Value.cells, List.cons.injEq, Value.slice.injEq, and_true] at he0
  obtain ⟨rfl, rfl, rfl⟩ := he0
  have k1 := h1
  have lt1 : ∀ x ∈ p1, x.block < W.heap.size := by obtain ⟨m, hm⟩ := k1; exact DataW.trod_lt m _ _ _ hm
  obtain ⟨A1, len1, c1, rfl⟩ := okWide_slice Try.underlying36 (hval 1 36 v1 rfl rfl)
  obtain ⟨x1, hk1, wf1⟩ := Rdga.trod rd_wbools h1
  obtain ⟨A1', c1', he1, hle1, hC1⟩ := hk1
  simp only [Value.cells, List.cons.injEq, Value.slice.injEq, and_true] at he1
  obtain ⟨rfl, rfl, rfl⟩ := he1
  refine (PowerPaths_walk A0 c0 x0 A1 c1 x1 W hC0 hle0 wf0 hC1 hle1 wf1).mono fun e W' ⟨he, bel⟩ => ?_
  subst he
  exact ⟨_, rfl, _, _, _, [], _, [], hW', trodAll_mk1 (shut_bool Try.underlying4 _), (trodAll_cons_mk (Below.trod laidOut (by kernel_rfl) (of_decide_eq_true (by kernel_rfl)) k0 bel lt0) (trodAll_cons_mk (Below.trod laidOut (by kernel_rfl) (of_decide_eq_true (by kernel_rfl)) k1 bel lt1) trodAll_mk0)), rfl, bel.frame _, fun h => by cases h⟩
theorem over : Rows.powerPathsRow.holds Try.pinned (OpenSpec.ofChange Rows.powerPathsSpec) :=
  OpenClaim.holds_of_wide 4 Try.f4 rfl rfl rfl rfl rfl rfl rfl ⟨rfl, rfl, rfl, rfl, rfl⟩ rfl rfl rfl rfl rfl (by kernel_rfl) Try.func4 (by kernel_rfl)
    (of_decide_eq_true (by kernel_rfl)) (by unfold Func.isWrapper; first | (rw [if_pos (by decide +kernel)]; kernel_rfl) | (rw [if_neg (by decide +kernel)]; exact ⟨rfl, rfl⟩))
    (fun os started H enc _ => lifted os started H enc)
theorem proved : Rows.PowerPathsSaid := over
end Go.Proofs.Ytnfnhgikhkpidaa.powerPathsRw
namespace Go.Proofs.Ytnfnhgikhkpidaa
theorem powerPaths_holds : Rows.PowerPathsSaid := powerPathsRw.proved
#print axioms powerPaths_holds
end Go.Proofs.Ytnfnhgikhkpidaa
end
