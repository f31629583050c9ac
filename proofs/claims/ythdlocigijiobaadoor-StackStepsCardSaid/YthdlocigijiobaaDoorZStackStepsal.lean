/- The law StackSteps holds for every input: the walk over its code shows that the call returns true and that what was read stays as it was; the row follows. The package-level tables that the code reads are tied to the program's text by the given tie. -/
import Derived.LaidLaws
import Derived.Lib.LaidTab
import Derived.OpenShut
import Derived.Test.YthdlocigijiobaaDoorRows
import Derived.Test.YthdlocigijiobaaDoorCards
import Derived.Test.YthdlocigijiobaaDoorTie
import Derived.WalkKit
import Derived.ProofKit
import Derived.ShutString
import Derived.ChangeOld
import Derived.Below
import Derived.SizedLaws
import Derived.Deep.DeepHandedRow
import Derived.LaidMore
import Derived.Test.YthdlocigijiobaaDoorZStackStepsaa
import Derived.Test.YthdlocigijiobaaDoorZStackStepsab
import Derived.Test.YthdlocigijiobaaDoorZStackStepsac
import Derived.Test.YthdlocigijiobaaDoorZStackStepsae
import Derived.Test.YthdlocigijiobaaDoorZStackStepsag
import Derived.Test.YthdlocigijiobaaDoorZStackStepsah
import Derived.Test.YthdlocigijiobaaDoorZStackStepsai
import Derived.Test.YthdlocigijiobaaDoorZStackStepsaj
import Derived.Test.YthdlocigijiobaaDoorZStackStepsak
section
/- One instruction's effect on a stack, as the document tells it: walked; it is what the program's stack.Step answers. -/
namespace Go.Proofs.YthdlocigijiobaaDoor.RPure
open Go Go.RowKit Go.Proofs.YthdlocigijiobaaDoor.PSk Go.Proofs.YthdlocigijiobaaDoor.Given Go.Proofs.YthdlocigijiobaaDoorW.PrintWords Go.Proofs.YthdlocigijiobaaDoorW.PrintLast Go.Proofs.YthdlocigijiobaaDoorW.PrintMore
set_option linter.unusedVariables false
set_option linter.unusedSimpArgs false
theorem eff_dup {C : LC} {V : LV} {B : LB} {U : LU} {u x y z : Int} {t l : List Int} (h : stack_effect.f C V B U u x y z = some (t, l)) : (x = 27 → l = [0, 0]) ∧ (x = 29 → l = [0, 0]) := by
  refine ⟨fun e => ?_, fun e => ?_⟩ <;> subst e <;> unfold stack_effect.f at h
  · rw [if_neg (fun e => by have := (shape4 27 (by omega)).1 e; omega)] at h
    simp at h
    exact h.2.symm
  · rw [if_neg (fun e => by have := (shape4 29 (by omega)).1 e; omega)] at h
    simp at h
    exact h.2.symm
def stepR (C : LC) (V : LV) (B : LB) (U : LU) (u x y z : Int) (st : List Int) : List Int × Int :=
  if oneF C V B U u x y z = 0 then (match stack_effect.f C V B U u x y z with | some (t, lv) => stepF x t lv st | none => ([], 0)) else ([], oneF C V B U u x y z)
/-- A row of its own, and an error. -/
def Tw (w w' : World) (e : Ending) (r1 : List Int) (r2 : Int) : Prop := ∃ v, e = .returned (.tuple #[v, .int .i64 r2]) ∧ Kd.R (Kd.int .i64) 3 w' w.heap.size (fun _ => True) v r1 ∧ Below w.heap.size w w'
theorem Tw.nil {w w' : World} {n : Int} (hb : Below w.heap.size w w') : Tw w w' (.returned (.tuple #[.slice none 0 0, .int .i64 n])) [] n := ⟨_, rfl, Kd.R_nil (Kd.int .i64) 3 w' w.heap.size (fun _ => True), hb⟩
theorem mat_end (t top : List Int) (i : Int) : mat t top i 0 = true := rfl
theorem mat_step (t top : List Int) (i m : Nat) : mat t top (i : Int) (m + 1) = ((rd t (i : Int) == 0 || rd t (i : Int) == rd top (i : Int)) && mat t top ((i + 1 : Nat) : Int) m) := by
  rw [mat]
  rfl
theorem top_len (x : Int) (top lv : List Int) (h27 : x = 27 → lv.length = 2) (h29 : x = 29 → lv.length = 2) : (topF x top lv).length = lv.length := by
  unfold topF
  split
  · rename_i a; simp [h27 a]
  · split
    · rename_i a; simp [h29 a]
    · rfl
theorem take_step (l : List Int) (k : Nat) (h : k < l.length) : l.take k ++ [rd l (k : Int)] = l.take (k + 1) := by
  unfold rd
  rw [Int.toNat_natCast, List.getD_eq_getElem?_getD, List.getElem?_eq_getElem h, Option.getD_some, List.take_add_one, List.getElem?_eq_getElem h]
  rfl
set_option maxHeartbeats 16000000 in
set_option maxRecDepth 100000 in
theorem rstep_w (A0 : Option Addr) (c0 : Nat) (C : LC) (A1 : Option Addr) (c1 : Nat) (V : LV) (A2 : Option Addr) (c2 : Nat) (B : LB) (A3 : Option Addr) (c3 : Nat) (U : LU) (u x y z : Int) (A4 : Option Addr) (c4 : Nat) (st : List Int) (w : World) (g0 : Kd.C k35 w A0 C.length C) (g1 : Kd.C k37 w A1 V.length V) (g2 : Kd.C k39 w A2 B.length B) (g3 : Kd.C k43 w A3 U.length U) (g4 : Kd.C (Kd.int .i64) w A4 st.length st) (l4 : st.length ≤ c4) (hst : st.length ≤ 1000) (hU : Ok U) :
    Calls Tryd.prog 11 #[.agg #[.slice A0 C.length c0, .slice A1 V.length c1, .slice A2 B.length c2, .slice A3 U.length c3], .int .i64 u, .agg #[.int .i64 x, .int .i64 y, .int .i64 z], .slice A4 st.length c4] w fun e w' => Tw w w' e (stepR C V B U u x y z st).1 (stepR C V B U u x y z st).2 := by
  have PO := Aside0.mk (fun W (hb : Below w.heap.size w W) => rone_w A0 c0 C A1 c1 V A2 c2 B A3 c3 U u x y z W hU (Kd.C_below g1 hb) (Kd.C_below g2 hb) (Kd.C_below g3 hb) g0.2.1)
  have m0 := g0.2.1
  have m1 := g1.2.1
  have m2 := g2.2.1
  have m3 := g3.2.1
  have G4 := Aside0.mk g4
  have HX := Aside0.mk (show Boxes w ((w.alloc (.cells #[.slice A0 C.length c0, .slice A1 V.length c1, .slice A2 B.length c2, .slice A3 U.length c3] 27)).alloc (.cells #[.int .i64 x, .int .i64 y, .int .i64 z] 29)) A0 C.length c0 A1 V.length c1 A2 B.length c2 A3 U.length c3 x y z from ⟨((Below.refl w.heap.size w).alloc (Nat.le_refl _) _).alloc (by simp) _, heap_alloc2_old w _ _, heap_alloc2_new w _ _⟩)
  by_cases h : oneF C V B U u x y z = 0
  rotate_left
  · unfold stepR
    rw [if_neg h]
    generalize oneF C V B U u x y z = one at *
    clear g0 g1 g2 g3 g4 hU
    go_enter Tryd.func11, Tryd.ntmps11
    go_wp2_with fail
    refine (PO.out _ HX.out.below).mono ?_
    rintro e w1 ⟨rfl, hb⟩
    have HX1 := Aside0.mk (HX.out.step hb)
    clear hb PO HX
    obtain ⟨⟨q0, q1, q2, q3⟩, i0, i1, i2⟩ := HX1.out.cells
    go_wp2_with fail
    go_ret2
    exact Tw.nil HX1.out.below
  obtain ⟨t, lv, he, nt, nl, h27, h29⟩ := eff_some hU h
  obtain ⟨d27, d29⟩ := eff_dup he
  have e34 := Aside0.mk (show x = 34 → t = [] from fun e => eff_nil1 he (by omega))
  have l34 := Aside0.mk (show x = 34 → lv = [] from fun e => eff_nil2 he (by omega))
  have hE : stepR C V B U u x y z st = stepF x t lv st := by unfold stepR; rw [if_pos h, he]
  rw [hE]
  clear hE
  have PR := Aside0.mk (fun W (hb : Below w.heap.size w W) => takes_row A0 c0 C A1 c1 V A2 c2 B A3 c3 U u x y z t lv W (Kd.C_below g0 hb) (Kd.C_below g1 hb) (Kd.C_below g2 hb) (Kd.C_below g3 hb) he hU h)
  have PS := Aside0.mk (fun W (hb : Below w.heap.size w W) => leaves_rowR A0 c0 C A1 c1 V A2 c2 B A3 c3 U u x y z t lv W (Kd.C_below g0 hb) (Kd.C_below g1 hb) (Kd.C_below g2 hb) (Kd.C_below g3 hb) he hU h)
  rw [h] at PO
  clear he h g0 g1 g2 g3 g4 hU
  unfold stepF
  by_cases a : st.length < t.length
  · rw [if_pos a]
    clear h27 h29 d27 d29 e34 l34 PS
    go_enter Tryd.func11, Tryd.ntmps11
    go_wp2_with fail
    refine (PO.out _ HX.out.below).mono ?_
    rintro e w1 ⟨rfl, hb⟩
    have HX1 := Aside0.mk (HX.out.step hb)
    clear hb PO HX
    obtain ⟨⟨q0, q1, q2, q3⟩, i0, i1, i2⟩ := HX1.out.cells
    go_wp2_with fail
    refine (PR.out _ HX1.out.below).mono ?_
    rintro e w2 ⟨v, rfl, ⟨A5, c5, rfl, hl5, hC5⟩, hb⟩
    have HX2 := Aside0.mk (HX1.out.step hb)
    have H5 := Aside0.mk hC5
    clear hb hC5 HX1 PR
    clear q0 q1 q2 q3 i0 i1 i2
    obtain ⟨⟨q0, q1, q2, q3⟩, i0, i1, i2⟩ := HX2.out.cells
    go_wp2_with fail
    go_ret2
    exact Tw.nil HX2.out.below
  rw [if_neg a]
  by_cases b : x = 34 ∧ 0 < st.length
  · rw [if_pos b]
    obtain ⟨rfl, b⟩ := b
    obtain rfl := e34.out rfl
    clear h27 h29 d27 d29 e34 l34 PS a
    go_enter Tryd.func11, Tryd.ntmps11
    go_wp2_with fail
    refine (PO.out _ HX.out.below).mono ?_
    rintro e w1 ⟨rfl, hb⟩
    have HX1 := Aside0.mk (HX.out.step hb)
    clear hb PO HX
    obtain ⟨⟨q0, q1, q2, q3⟩, i0, i1, i2⟩ := HX1.out.cells
    go_wp2_with fail
    refine (PR.out _ HX1.out.below).mono ?_
    rintro e w2 ⟨v, rfl, ⟨A5, c5, rfl, hl5, hC5⟩, hb⟩
    have HX2 := Aside0.mk (HX1.out.step hb)
    have H5 := Aside0.mk hC5
    clear hb hC5 HX1 PR
    clear q0 q1 q2 q3 i0 i1 i2
    obtain ⟨⟨q0, q1, q2, q3⟩, i0, i1, i2⟩ := HX2.out.cells
    go_wp2_with fail
    go_ret2
    exact Tw.nil HX2.out.below
  rw [if_neg b]
  obtain ⟨low, hlo1, hlo2⟩ : ∃ low : Nat, st.length ≤ low + t.length ∧ low + t.length ≤ st.length := ⟨st.length - t.length, by omega, by omega⟩
  rw [show st.length - t.length = low by omega]
  obtain ⟨i0_, hi0_, _, hz1_, _⟩ := info_parts info3
  obtain ⟨hcutT, -, -⟩ := print_take_of (P := Tryd.prog) (Value.int .i64) 0 40 3 .i64 Tryd.underlying40 hi0_ hz1_ A4 c4 st ((st.length : Int) - (t.length : Int)) (by omega) (by omega) l4
  obtain ⟨A6, hcutD, hrD, hlD⟩ := print_drop_of (P := Tryd.prog) (Value.int .i64) 0 40 3 .i64 Tryd.underlying40 hi0_ hz1_ A4 c4 st ((st.length : Int) - (t.length : Int)) (by omega) (by omega) l4
  clear hi0_ hz1_
  have en : ((st.length : Int) - (t.length : Int)).toNat = low := by omega
  rw [en] at hcutT hcutD hrD hlD
  clear en
  have lt_ : (st.take low).length = low := by rw [List.length_take]; omega
  have ld_ : (st.drop low).length = t.length := by rw [List.length_drop]; omega
  rw [lt_] at hcutT
  rw [ld_] at hcutD hlD
  have GT := Aside0.mk (show Kd.C (Kd.int .i64) w A4 low (st.take low) by have := Kd.C_take (m := low) G4.out (by omega); rwa [lt_] at this)
  have GD := Aside0.mk (show Kd.C (Kd.int .i64) w A6 t.length (st.drop low) from by have h_ := Kd.C_of_reads (h1 := fun _ => rfl) (hrD _ (Kd.reads_of_C G4.out)); rw [ld_] at h_; exact h_)
  obtain ⟨top, htop⟩ : ∃ top, top = st.drop low := ⟨_, rfl⟩
  obtain ⟨sta, hsta⟩ : ∃ sta, sta = st.take low := ⟨_, rfl⟩
  rw [← htop] at GD ld_ ⊢
  rw [← hsta] at GT lt_ ⊢
  clear htop hsta hrD
  have hT := top_len x top lv (fun e => by rw [d27 e]; rfl) (fun e => by rw [d29 e]; rfl)
  rw [hT]
  obtain ⟨R, hR⟩ : ∃ R, (if mat t top 0 t.length = true then (if 32 < low + lv.length then ([], 9) else (sta ++ topF x top lv, 0)) else ([], 10) : List Int × Int) = R := ⟨_, rfl⟩
  rw [hR]
  have HR := Aside0.mk hR
  clear hR
  by_cases c : x = 34
  · subst c
    have s0 : decide (0 < st.length) = false := decide_eq_false (by omega)
    clear b
    go_enter Tryd.func11, Tryd.ntmps11
    go_wp2_with fail
    refine (PO.out _ HX.out.below).mono ?_
    rintro e w1 ⟨rfl, hb⟩
    have HX1 := Aside0.mk (HX.out.step hb)
    clear hb PO HX
    obtain ⟨⟨q0, q1, q2, q3⟩, i0, i1, i2⟩ := HX1.out.cells
    go_wp2_with fail
    refine (PR.out _ HX1.out.below).mono ?_
    rintro e w2 ⟨v, rfl, ⟨A5, c5, rfl, hl5, hC5⟩, hb⟩
    have HX2 := Aside0.mk (HX1.out.step hb)
    have H5 := Aside0.mk hC5
    clear hb hC5 HX1 PR
    clear q0 q1 q2 q3 i0 i1 i2
    obtain ⟨⟨q0, q1, q2, q3⟩, i0, i1, i2⟩ := HX2.out.cells
    have hs2 := HX2.out.below.size
    go_wp2_with (first
      | ((with_reducible refine gate_dst (N := 44) rfl ?_); refine Kd.R_lit (Kd.int .i64) _ 3 ?hg (N := 44) ?hd (xs := ([] : List Int)) (inner := []) (ok := fun _ => True) (okp := fun _ => True) ?hr ?hp (fun _ hk => hk) trivial (Below.refl _ _) (Nat.le_refl _) (by simp) ?_; (case hd => rfl); (case hg => rfl); (case hr => first | (go_simp; done) | (go_simp; rfl)); (case hp => exact (Reps.none _ _)); intro v5 W5 ho5 hb_ hg_ hn_; clear hg_ hn_; have HO5 := Aside0.mk ho5; have HB5 := Aside0.mk hb_; clear ho5 hb_)
      | ((with_reducible refine gate_builtin (b := .append) (xs := #[.tmp 44, .tmp 51]) rfl ?_); at_builtin; refine Kd.R_append_rows (Kd.int .i64) (w0 := w2) w2.heap.size rfl (.tmp 44) (.tmp 51) 40 3 (.int .i64 0) 8 rfl Tryd.underlying40 info3 rfl (by decide) (by omega) v5 [] sta _ _ _ (fun _ => True) (fun _ => False) rfl rfl ?aO ?aR (fun _ _ h => h) (fun _ h => h.elim) ?aF ?aB ?aS ?aL ?_; (case aR => exact Kd.C_below GT.out (HX2.out.below.trans (HB5.out.mono hs2))); (case aB => exact HB5.out); (case aF => exact (fun _ _ => trivial)); (case aO => exact HO5.out); (case aS => exact HB5.out.size); (case aL => simp; omega); intro v6 W6 ho6 hb6 hg6 hat6; clear hg6 hat6; rw [List.nil_append] at ho6; have HO6 := Aside0.mk ho6; have HB6 := Aside0.mk hb6; clear ho6 hb6 HO5 HB5))
    clear q0 q1 q2 q3 i0 i1 i2
    have HR6 := Aside0.mk (HB6.out.size)
    go_loopw [14] (fun x_ wr => ∃ i : Nat, i ≤ t.length ∧ x_ = .int .i64 (i : Int) ∧ mat t top 0 t.length = mat t top (i : Int) (t.length - i) ∧ Aside0 (Below W6.heap.size W6 wr)) (fun x_ _ => t.length - (intOf x_).toNat)
    case atStart => exact ⟨0, Nat.zero_le _, rfl, rfl, Aside0.mk (Below.refl _ _)⟩
    case round =>
      obtain ⟨i, hi, rfl, hmat, HW⟩ := hrel
      have HXr := Aside0.mk (HX2.out.step (HB6.out.trans (HW.out.mono HR6.out)))
      obtain ⟨⟨q0, q1, q2, q3⟩, i0, i1, i2⟩ := HXr.out.cells
      have HT := Aside0.mk (Kd.C_below H5.out (HB6.out.trans (HW.out.mono HR6.out)))
      have HD := Aside0.mk (Kd.C_below GD.out HXr.out.below)
      by_cases hil : i < t.length
      rotate_left
      · obtain rfl : i = t.length := by omega
        rw [Nat.sub_self, mat_end] at hmat
        have HM := Aside0.mk hmat
        clear hmat hil hi
        go_wp2_with fail
        refine (PS.out _ HXr.out.below).mono ?_
        rintro e w3 ⟨v7, rfl, ho7, hb⟩
        have HX3 := Aside0.mk (HXr.out.step hb)
        have HO3 := Aside0.mk (Kd.R_below (Kd.R_below HO6.out HW.out) hb)
        have HL3 := Aside0.mk (Kd.R_lower (Kd.R_newR ho7 (Kd.R_below HO6.out HW.out)) (Nat.le_trans HR6.out HW.out.size))
        have HB3 := Aside0.mk (HB6.out.trans ((HW.out.mono HR6.out).trans (hb.mono (Nat.le_trans HR6.out HW.out.size))))
        clear hb ho7 HO6 HB6 HW HT HXr HD PS
        clear q0 q1 q2 q3 i0 i1 i2
        obtain ⟨A7, c7, rfl, hl7, hC7⟩ := Kd.R_reads HL3.out
        clear hC7
        have hTl : ∀ k : Nat, k < lv.length → topF 34 top lv = topF 34 top lv := fun _ _ => rfl
        clear hTl
        go_wp2_with fail
        go_loopw [12, 16] (fun o_ x_ wr => ∃ k : Nat, k ≤ lv.length ∧ x_ = .int .i64 (k : Int) ∧ Aside0 (Kd.R (Kd.int .i64) 3 wr w2.heap.size (fun _ => True) o_ (sta ++ (topF 34 top lv).take k)) ∧ Aside0 (Kd.R (Kd.int .i64) 3 wr w2.heap.size (fun k_ => True ∧ some k_ ≠ o_.ownBlock) (.slice A7 lv.length c7) lv) ∧ Aside0 (Below w2.heap.size w2 wr)) (fun o_ x_ _ => lv.length - (intOf x_).toNat)
        case atStart => exact ⟨0, Nat.zero_le _, rfl, Aside0.mk (by rw [List.take_zero, List.append_nil]; exact HO3.out), Aside0.mk HL3.out, HB3⟩
        case round =>
          obtain ⟨k, hk, rfl, HO, HL, HW⟩ := hrel
          clear HO3 HL3 HB3 HX3
          have HXr := Aside0.mk (HX2.out.step HW.out)
          obtain ⟨⟨q0, q1, q2, q3⟩, i0, i1, i2⟩ := HXr.out.cells
          have HD := Aside0.mk (Kd.C_below GD.out HXr.out.below)
          obtain ⟨A8, c8, rfl, hl8, hC8⟩ := Kd.R_reads HO.out
          clear hC8
          have hn8 : (sta ++ (topF 34 top lv).take k).length = low + k := by rw [List.length_append, lt_, List.length_take, hT]; omega
          rw [hn8] at hl8 HO HL ⊢
          by_cases hkl : k < lv.length
          rotate_left
          · obtain rfl : k = lv.length := by omega
            have ht_ : (topF 34 top lv).take lv.length = topF 34 top lv := by rw [← hT]; exact List.take_length
            rw [ht_] at HO
            by_cases c32 : 32 < low + lv.length
            · go_wp2_with fail
              go_ret2
              rw [← HR.out, if_pos HM.out, if_pos c32]
              exact Tw.nil HXr.out.below
            · have HE := Aside0.mk (Kd.R_lower HO.out HX2.out.below.size)
              go_wp2_with fail
              go_ret2
              rw [← HR.out, if_pos HM.out, if_neg c32]
              exact ⟨_, rfl, HE.out, HXr.out.below⟩
          obtain ⟨Lr, cr, el, hlr, hCr⟩ := Kd.R_reads HL.out
          injection el with el1 el2 el3
          subst el1
          clear el2 el3 hlr
          obtain ⟨al, rfl, kl⟩ := Kd.at_int hCr (k : Int) (by omega) (by omega)
          rw [Int.toNat_natCast] at kl
          clear hCr
          have : lv.length = 0 := by rw [l34.out (by trivial)]; rfl
          omega
      have : t.length = 0 := by rw [e34.out (by trivial)]; rfl
      omega
  have bx : (x == 34) = false := beq_eq_false_iff_ne.2 c
  go_enter Tryd.func11, Tryd.ntmps11
  go_wp2_with fail
  refine (PO.out _ HX.out.below).mono ?_
  rintro e w1 ⟨rfl, hb⟩
  have HX1 := Aside0.mk (HX.out.step hb)
  clear hb PO HX
  obtain ⟨⟨q0, q1, q2, q3⟩, i0, i1, i2⟩ := HX1.out.cells
  go_wp2_with fail
  refine (PR.out _ HX1.out.below).mono ?_
  rintro e w2 ⟨v, rfl, ⟨A5, c5, rfl, hl5, hC5⟩, hb⟩
  have HX2 := Aside0.mk (HX1.out.step hb)
  have H5 := Aside0.mk hC5
  clear hb hC5 HX1 PR
  clear q0 q1 q2 q3 i0 i1 i2
  obtain ⟨⟨q0, q1, q2, q3⟩, i0, i1, i2⟩ := HX2.out.cells
  have hs2 := HX2.out.below.size
  go_wp2_with (first
    | ((with_reducible refine gate_dst (N := 44) rfl ?_); refine Kd.R_lit (Kd.int .i64) _ 3 ?hg (N := 44) ?hd (xs := ([] : List Int)) (inner := []) (ok := fun _ => True) (okp := fun _ => True) ?hr ?hp (fun _ hk => hk) trivial (Below.refl _ _) (Nat.le_refl _) (by simp) ?_; (case hd => rfl); (case hg => rfl); (case hr => first | (go_simp; done) | (go_simp; rfl)); (case hp => exact (Reps.none _ _)); intro v5 W5 ho5 hb_ hg_ hn_; clear hg_ hn_; have HO5 := Aside0.mk ho5; have HB5 := Aside0.mk hb_; clear ho5 hb_)
    | ((with_reducible refine gate_builtin (b := .append) (xs := #[.tmp 44, .tmp 51]) rfl ?_); at_builtin; refine Kd.R_append_rows (Kd.int .i64) (w0 := w2) w2.heap.size rfl (.tmp 44) (.tmp 51) 40 3 (.int .i64 0) 8 rfl Tryd.underlying40 info3 rfl (by decide) (by omega) v5 [] sta _ _ _ (fun _ => True) (fun _ => False) rfl rfl ?aO ?aR (fun _ _ h => h) (fun _ h => h.elim) ?aF ?aB ?aS ?aL ?_; (case aR => exact Kd.C_below GT.out (HX2.out.below.trans (HB5.out.mono hs2))); (case aB => exact HB5.out); (case aF => exact (fun _ _ => trivial)); (case aO => exact HO5.out); (case aS => exact HB5.out.size); (case aL => simp; omega); intro v6 W6 ho6 hb6 hg6 hat6; clear hg6 hat6; rw [List.nil_append] at ho6; have HO6 := Aside0.mk ho6; have HB6 := Aside0.mk hb6; clear ho6 hb6 HO5 HB5))
  clear q0 q1 q2 q3 i0 i1 i2
  have HR6 := Aside0.mk (HB6.out.size)
  go_loopw [14] (fun x_ wr => ∃ i : Nat, i ≤ t.length ∧ x_ = .int .i64 (i : Int) ∧ mat t top 0 t.length = mat t top (i : Int) (t.length - i) ∧ Aside0 (Below W6.heap.size W6 wr)) (fun x_ _ => t.length - (intOf x_).toNat)
  case atStart => exact ⟨0, Nat.zero_le _, rfl, rfl, Aside0.mk (Below.refl _ _)⟩
  case round =>
    obtain ⟨i, hi, rfl, hmat, HW⟩ := hrel
    have HXr := Aside0.mk (HX2.out.step (HB6.out.trans (HW.out.mono HR6.out)))
    obtain ⟨⟨q0, q1, q2, q3⟩, i0, i1, i2⟩ := HXr.out.cells
    have HT := Aside0.mk (Kd.C_below H5.out (HB6.out.trans (HW.out.mono HR6.out)))
    have HD := Aside0.mk (Kd.C_below GD.out HXr.out.below)
    by_cases hil : i < t.length
    rotate_left
    · obtain rfl : i = t.length := by omega
      rw [Nat.sub_self, mat_end] at hmat
      have HM := Aside0.mk hmat
      clear hmat hil hi
      go_wp2_with fail
      refine (PS.out _ HXr.out.below).mono ?_
      rintro e w3 ⟨v7, rfl, ho7, hb⟩
      have HX3 := Aside0.mk (HXr.out.step hb)
      have HO3 := Aside0.mk (Kd.R_below (Kd.R_below HO6.out HW.out) hb)
      have HL3 := Aside0.mk (Kd.R_lower (Kd.R_newR ho7 (Kd.R_below HO6.out HW.out)) (Nat.le_trans HR6.out HW.out.size))
      have HB3 := Aside0.mk (HB6.out.trans ((HW.out.mono HR6.out).trans (hb.mono (Nat.le_trans HR6.out HW.out.size))))
      clear hb ho7 HO6 HB6 HW HT HXr HD PS
      clear q0 q1 q2 q3 i0 i1 i2
      obtain ⟨A7, c7, rfl, hl7, hC7⟩ := Kd.R_reads HL3.out
      clear hC7
      have hTl : ∀ k : Nat, k < lv.length → topF x top lv = topF x top lv := fun _ _ => rfl
      clear hTl
      go_wp2_with fail
      go_loopw [12, 16] (fun o_ x_ wr => ∃ k : Nat, k ≤ lv.length ∧ x_ = .int .i64 (k : Int) ∧ Aside0 (Kd.R (Kd.int .i64) 3 wr w2.heap.size (fun _ => True) o_ (sta ++ (topF x top lv).take k)) ∧ Aside0 (Kd.R (Kd.int .i64) 3 wr w2.heap.size (fun k_ => True ∧ some k_ ≠ o_.ownBlock) (.slice A7 lv.length c7) lv) ∧ Aside0 (Below w2.heap.size w2 wr)) (fun o_ x_ _ => lv.length - (intOf x_).toNat)
      case atStart => exact ⟨0, Nat.zero_le _, rfl, Aside0.mk (by rw [List.take_zero, List.append_nil]; exact HO3.out), Aside0.mk HL3.out, HB3⟩
      case round =>
        obtain ⟨k, hk, rfl, HO, HL, HW⟩ := hrel
        clear HO3 HL3 HB3 HX3
        have HXr := Aside0.mk (HX2.out.step HW.out)
        obtain ⟨⟨q0, q1, q2, q3⟩, i0, i1, i2⟩ := HXr.out.cells
        have HD := Aside0.mk (Kd.C_below GD.out HXr.out.below)
        obtain ⟨A8, c8, rfl, hl8, hC8⟩ := Kd.R_reads HO.out
        clear hC8
        have hn8 : (sta ++ (topF x top lv).take k).length = low + k := by rw [List.length_append, lt_, List.length_take, hT]; omega
        rw [hn8] at hl8 HO HL ⊢
        by_cases hkl : k < lv.length
        rotate_left
        · obtain rfl : k = lv.length := by omega
          have ht_ : (topF x top lv).take lv.length = topF x top lv := by rw [← hT]; exact List.take_length
          rw [ht_] at HO
          by_cases c32 : 32 < low + lv.length
          · go_wp2_with fail
            go_ret2
            rw [← HR.out, if_pos HM.out, if_pos c32]
            exact Tw.nil HXr.out.below
          · have HE := Aside0.mk (Kd.R_lower HO.out HX2.out.below.size)
            go_wp2_with fail
            go_ret2
            rw [← HR.out, if_pos HM.out, if_neg c32]
            exact ⟨_, rfl, HE.out, HXr.out.below⟩
        obtain ⟨Lr, cr, el, hlr, hCr⟩ := Kd.R_reads HL.out
        injection el with el1 el2 el3
        subst el1
        clear el2 el3 hlr
        obtain ⟨al, rfl, kl⟩ := Kd.at_int hCr (k : Int) (by omega) (by omega)
        rw [Int.toNat_natCast] at kl
        clear hCr
        by_cases c27 : x = 27
        · subst c27
          have tl1 : 0 < t.length := by rw [h27 rfl]; decide
          have lk2 : k < 2 := by have e_ := congrArg List.length (d27 rfl); simp at e_; omega
          clear h27 d27 h29 d29
          obtain ⟨at_, rfl, kt⟩ := Kd.at_int HD.out 0 (by omega) (by omega)
          rw [show (0 : Int).toNat = 0 from rfl] at kt
          have kt0 := kt
          simp only [Addr.add_zero'] at kt0
          have hv : rd (topF 27 top lv) (k : Int) = rd top 0 := by unfold topF; rw [if_pos rfl]; rcases (by omega : k = 0 ∨ k = 1) with rfl | rfl <;> rfl
          have hap := take_step (topF 27 top lv) k (by omega)
          rw [hv] at hap
          have hxs := HXr.out.below.size
          have hws := HW.out.size
          go_wp2_with (first
            | ((with_reducible refine gate_dst (N := 112) rfl ?_); refine Kd.R_lit (Kd.int .i64) _ 3 ?hg (N := 112) ?hd (xs := ([rd top 0] : List Int)) (inner := [.int .i64 (rd top 0)]) (ok := fun _ => True) (okp := fun _ => True) ?hr ?hp (fun _ hk => hk) trivial (Below.refl _ _) (Nat.le_refl _) (by simp) ?_; (case hd => rfl); (case hg => rfl); (case hr => first | (go_simp; done) | (go_simp; rfl)); (case hp => exact (Reps.one (show Kd.M (Kd.int .i64) _ _ _ _ [_] from rfl) (Reps.none _ _))); intro v9 W9 ho9 hb_ hg_ hn_; clear hg_ hn_; obtain ⟨A9, c9, rfl, _, hC9⟩ := Kd.R_reads ho9; have HC9 := Aside0.mk hC9; have HB9 := Aside0.mk hb_; clear ho9 hb_ hC9)
            | ((with_reducible refine gate_builtin (b := .append) (xs := #[.tmp 110, .tmp 112]) rfl ?_); at_builtin; refine Kd.R_append_rows (Kd.int .i64) (w0 := w2) w2.heap.size rfl (.tmp 110) (.tmp 112) 40 3 (.int .i64 0) 8 rfl Tryd.underlying40 info3 rfl (by decide) (by omega) (.slice A8 (low + k) c8) (sta ++ (topF 27 top lv).take k) [rd top 0] _ _ _ (fun _ => True) (fun _ => False) rfl rfl ?aO ?aR (fun _ _ h => h) (fun _ h => h.elim) ?aF ?aB ?aS ?aL ?_; (case aR => exact HC9.out); (case aB => exact HW.out.trans (HB9.out.mono hws)); (case aF => exact (fun _ _ => trivial)); (case aO => exact Kd.R_below HO.out HB9.out); (case aS => exact Nat.le_trans hws HB9.out.size); (case aL => rw [hn8]; simp; omega); intro v10 W10 ho10 hb10 hg10 hat10; rw [List.append_assoc, hap] at ho10; have HQ := Aside0.mk (show Kd.R (Kd.int .i64) 3 W10 w2.heap.size (fun _ => True) v10 (sta ++ (topF 27 top lv).take (k + 1)) ∧ Kd.R (Kd.int .i64) 3 W10 w2.heap.size (fun k_ => True ∧ some k_ ≠ v10.ownBlock) (.slice (some al) lv.length c7) lv ∧ Below w2.heap.size w2 W10 from ⟨ho10, Kd.R_after (Kd.R_below HL.out HB9.out) hg10 hat10, hb10⟩); clear ho10 hb10 hg10 hat10))
          refine ⟨⟨k + 1, by omega, by push_cast; rfl, Aside0.mk HQ.out.1, Aside0.mk HQ.out.2.1, Aside0.mk HQ.out.2.2⟩, ?_⟩
          rw [show intOf (.int .i64 ((k : Int) + 1)) = (k : Int) + 1 from rfl, show intOf (.int .i64 (k : Int)) = (k : Int) from rfl]
          omega
        by_cases c29 : x = 29
        · subst c29
          have tl1 : 1 < t.length := by rw [h29 rfl]; decide
          have lk2 : k < 2 := by have e_ := congrArg List.length (d29 rfl); simp at e_; omega
          clear h27 d27 h29 d29
          obtain ⟨at_, rfl, kt⟩ := Kd.at_int HD.out (1 - (k : Int)) (by omega) (by omega)
          have kt1 : wr.cell? (at_.add (1 - k)) = some (.int .i64 (rd top (1 - (k : Int)))) := by have e_ : (1 - (k : Int)).toNat = 1 - k := (by omega); rw [← e_]; exact kt
          have hv : rd (topF 29 top lv) (k : Int) = rd top (1 - (k : Int)) := by unfold topF; rw [if_neg (by decide), if_pos rfl]; rcases (by omega : k = 0 ∨ k = 1) with rfl | rfl <;> rfl
          have hap := take_step (topF 29 top lv) k (by omega)
          rw [hv] at hap
          have hxs := HXr.out.below.size
          have hws := HW.out.size
          go_wp2_with (first
            | ((with_reducible refine gate_dst (N := 112) rfl ?_); refine Kd.R_lit (Kd.int .i64) _ 3 ?hg (N := 112) ?hd (xs := ([rd top (1 - (k : Int))] : List Int)) (inner := [.int .i64 (rd top (1 - (k : Int)))]) (ok := fun _ => True) (okp := fun _ => True) ?hr ?hp (fun _ hk => hk) trivial (Below.refl _ _) (Nat.le_refl _) (by simp) ?_; (case hd => rfl); (case hg => rfl); (case hr => first | (go_simp; done) | (go_simp; rfl)); (case hp => exact (Reps.one (show Kd.M (Kd.int .i64) _ _ _ _ [_] from rfl) (Reps.none _ _))); intro v9 W9 ho9 hb_ hg_ hn_; clear hg_ hn_; obtain ⟨A9, c9, rfl, _, hC9⟩ := Kd.R_reads ho9; have HC9 := Aside0.mk hC9; have HB9 := Aside0.mk hb_; clear ho9 hb_ hC9)
            | ((with_reducible refine gate_builtin (b := .append) (xs := #[.tmp 110, .tmp 112]) rfl ?_); at_builtin; refine Kd.R_append_rows (Kd.int .i64) (w0 := w2) w2.heap.size rfl (.tmp 110) (.tmp 112) 40 3 (.int .i64 0) 8 rfl Tryd.underlying40 info3 rfl (by decide) (by omega) (.slice A8 (low + k) c8) (sta ++ (topF 29 top lv).take k) [rd top (1 - (k : Int))] _ _ _ (fun _ => True) (fun _ => False) rfl rfl ?aO ?aR (fun _ _ h => h) (fun _ h => h.elim) ?aF ?aB ?aS ?aL ?_; (case aR => exact HC9.out); (case aB => exact HW.out.trans (HB9.out.mono hws)); (case aF => exact (fun _ _ => trivial)); (case aO => exact Kd.R_below HO.out HB9.out); (case aS => exact Nat.le_trans hws HB9.out.size); (case aL => rw [hn8]; simp; omega); intro v10 W10 ho10 hb10 hg10 hat10; rw [List.append_assoc, hap] at ho10; have HQ := Aside0.mk (show Kd.R (Kd.int .i64) 3 W10 w2.heap.size (fun _ => True) v10 (sta ++ (topF 29 top lv).take (k + 1)) ∧ Kd.R (Kd.int .i64) 3 W10 w2.heap.size (fun k_ => True ∧ some k_ ≠ v10.ownBlock) (.slice (some al) lv.length c7) lv ∧ Below w2.heap.size w2 W10 from ⟨ho10, Kd.R_after (Kd.R_below HL.out HB9.out) hg10 hat10, hb10⟩); clear ho10 hb10 hg10 hat10))
          refine ⟨⟨k + 1, by omega, by push_cast; rfl, Aside0.mk HQ.out.1, Aside0.mk HQ.out.2.1, Aside0.mk HQ.out.2.2⟩, ?_⟩
          rw [show intOf (.int .i64 ((k : Int) + 1)) = (k : Int) + 1 from rfl, show intOf (.int .i64 (k : Int)) = (k : Int) from rfl]
          omega
        have hv : rd (topF x top lv) (k : Int) = rd lv (k : Int) := by unfold topF; rw [if_neg c27, if_neg c29]
        have hap := take_step (topF x top lv) k (by omega)
        rw [hv] at hap
        have hxs := HXr.out.below.size
        have hws := HW.out.size
        go_wp2_with (first
          | ((with_reducible refine gate_dst (N := 112) rfl ?_); refine Kd.R_lit (Kd.int .i64) _ 3 ?hg (N := 112) ?hd (xs := ([rd lv (k : Int)] : List Int)) (inner := [.int .i64 (rd lv (k : Int))]) (ok := fun _ => True) (okp := fun _ => True) ?hr ?hp (fun _ hk => hk) trivial (Below.refl _ _) (Nat.le_refl _) (by simp) ?_; (case hd => rfl); (case hg => rfl); (case hr => first | (go_simp; done) | (go_simp; rfl)); (case hp => exact (Reps.one (show Kd.M (Kd.int .i64) _ _ _ _ [_] from rfl) (Reps.none _ _))); intro v9 W9 ho9 hb_ hg_ hn_; clear hg_ hn_; obtain ⟨A9, c9, rfl, _, hC9⟩ := Kd.R_reads ho9; have HC9 := Aside0.mk hC9; have HB9 := Aside0.mk hb_; clear ho9 hb_ hC9)
          | ((with_reducible refine gate_builtin (b := .append) (xs := #[.tmp 110, .tmp 112]) rfl ?_); at_builtin; refine Kd.R_append_rows (Kd.int .i64) (w0 := w2) w2.heap.size rfl (.tmp 110) (.tmp 112) 40 3 (.int .i64 0) 8 rfl Tryd.underlying40 info3 rfl (by decide) (by omega) (.slice A8 (low + k) c8) (sta ++ (topF x top lv).take k) [rd lv (k : Int)] _ _ _ (fun _ => True) (fun _ => False) rfl rfl ?aO ?aR (fun _ _ h => h) (fun _ h => h.elim) ?aF ?aB ?aS ?aL ?_; (case aR => exact HC9.out); (case aB => exact HW.out.trans (HB9.out.mono hws)); (case aF => exact (fun _ _ => trivial)); (case aO => exact Kd.R_below HO.out HB9.out); (case aS => exact Nat.le_trans hws HB9.out.size); (case aL => rw [hn8]; simp; omega); intro v10 W10 ho10 hb10 hg10 hat10; rw [List.append_assoc, hap] at ho10; have HQ := Aside0.mk (show Kd.R (Kd.int .i64) 3 W10 w2.heap.size (fun _ => True) v10 (sta ++ (topF x top lv).take (k + 1)) ∧ Kd.R (Kd.int .i64) 3 W10 w2.heap.size (fun k_ => True ∧ some k_ ≠ v10.ownBlock) (.slice (some al) lv.length c7) lv ∧ Below w2.heap.size w2 W10 from ⟨ho10, Kd.R_after (Kd.R_below HL.out HB9.out) hg10 hat10, hb10⟩); clear ho10 hb10 hg10 hat10))
        refine ⟨⟨k + 1, by omega, by push_cast; rfl, Aside0.mk HQ.out.1, Aside0.mk HQ.out.2.1, Aside0.mk HQ.out.2.2⟩, ?_⟩
        rw [show intOf (.int .i64 ((k : Int) + 1)) = (k : Int) + 1 from rfl, show intOf (.int .i64 (k : Int)) = (k : Int) from rfl]
        omega
    obtain ⟨m, hm⟩ : ∃ m, t.length - i = m + 1 := ⟨t.length - i - 1, by omega⟩
    rw [hm, mat_step] at hmat
    obtain ⟨at_, rfl, kt⟩ := Kd.at_int HT.out (i : Int) (by omega) (by omega)
    rw [Int.toNat_natCast] at kt
    by_cases z0_ : rd t (i : Int) = 0
    · rw [beq_iff_eq.2 z0_, Bool.true_or, Bool.true_and] at hmat
      have zb : (rd t (i : Int) != 0) = false := by simp [z0_]
      go_wp2_with fail
      go_quiet (fail)
      go_wp2_with fail
      refine ⟨⟨i + 1, by omega, by push_cast; rfl, by rw [hmat]; congr 1; omega, Aside0.mk (by first | exact HW.out | exact pw_below_drewN HW.out _)⟩, ?_⟩
      rw [show intOf (.int .i64 ((i : Int) + 1)) = (i : Int) + 1 from rfl, show intOf (.int .i64 (i : Int)) = (i : Int) from rfl]
      omega
    rw [beq_eq_false_iff_ne.2 z0_, Bool.false_or] at hmat
    obtain ⟨ad_, rfl, kd⟩ := Kd.at_int HD.out (i : Int) (by omega) (by omega)
    rw [Int.toNat_natCast] at kd
    have zb : (rd t (i : Int) != 0) = true := by simpa using z0_
    by_cases z1_ : rd t (i : Int) = rd top (i : Int)
    · rw [beq_iff_eq.2 z1_, Bool.true_and] at hmat
      rw [← z1_] at kd
      clear z1_
      go_wp2_with fail
      go_quiet (fail)
      go_wp2_with fail
      refine ⟨⟨i + 1, by omega, by push_cast; rfl, by rw [hmat]; congr 1; omega, Aside0.mk (by first | exact HW.out | exact pw_below_drewN HW.out _)⟩, ?_⟩
      rw [show intOf (.int .i64 ((i : Int) + 1)) = (i : Int) + 1 from rfl, show intOf (.int .i64 (i : Int)) = (i : Int) from rfl]
      omega
    have zc : (rd t (i : Int) != rd top (i : Int)) = true := by simpa using z1_
    rw [beq_eq_false_iff_ne.2 z1_, Bool.false_and] at hmat
    go_wp2_with fail
    go_quiet (fail)
    go_wp2_with fail
    go_ret2
    rw [← HR.out, hmat, if_neg (by decide)]
    exact Tw.nil (by first | exact HXr.out.below | exact pw_below_drewN HXr.out.below _)
end Go.Proofs.YthdlocigijiobaaDoor.RPure
end

section
/- One instruction's effect on a stack, as the document tells it, in the printed form. -/
namespace Go.Proofs.YthdlocigijiobaaDoor.Given
open Go Go.RowKit Go.Proofs.YthdlocigijiobaaDoor.PSk Go.Proofs.YthdlocigijiobaaDoor.RPure Go.Proofs.YthdlocigijiobaaDoorW.PrintWords Go.Proofs.YthdlocigijiobaaDoorW.PrintLast Go.Proofs.YthdlocigijiobaaDoorW.PrintMore
set_option linter.unusedVariables false
def ladderbackref19_Step.f (k : Nat) (C : LC) (V : LV) (B : LB) (U : LU) (u x y z : Int) (st : List Int) : Option (List Int × Int) := if okB U = true ∧ st.length ≤ 1000 then some (stepR C V B U u x y z st) else none
theorem ladderbackref19_Step.mono : ∀ a0 a1 a2 a3 a4 a5 a6 a7 a8 k, LeO (ladderbackref19_Step.f k a0 a1 a2 a3 a4 a5 a6 a7 a8) (ladderbackref19_Step.f (k + 1) a0 a1 a2 a3 a4 a5 a6 a7 a8) := fun _ _ _ _ _ _ _ _ _ _ => LeO.refl _
theorem ladderbackref19_Step.calls (k : Nat) (A0_0 : Option Addr) (c0_0 : Nat) (l0_0 : List (S35)) (A0_1 : Option Addr) (c0_1 : Nat) (l0_1 : List (S37)) (A0_2 : Option Addr) (c0_2 : Nat) (l0_2 : List (S39)) (A0_3 : Option Addr) (c0_3 : Nat) (l0_3 : List (S43)) (a1 : Int) (a2_0 : Int) (a2_1 : Int) (a2_2 : Int) (A3 : Option Addr) (c3 : Nat) (l3 : List Int) (r1 : List Int) (r2 : Int) (w : World) (hr0_0 : Kd.C k35 w A0_0 l0_0.length l0_0) (hc0_0 : l0_0.length ≤ c0_0) (hr0_1 : Kd.C k37 w A0_1 l0_1.length l0_1) (hc0_1 : l0_1.length ≤ c0_1) (hr0_2 : Kd.C k39 w A0_2 l0_2.length l0_2) (hc0_2 : l0_2.length ≤ c0_2) (hr0_3 : Kd.C k43 w A0_3 l0_3.length l0_3) (hc0_3 : l0_3.length ≤ c0_3) (hr3 : Kd.C (Kd.int .i64) w A3 l3.length l3) (hc3 : l3.length ≤ c3) (h : ladderbackref19_Step.f k l0_0 l0_1 l0_2 l0_3 a1 a2_0 a2_1 a2_2 l3 = some (r1, r2)) :
    Calls Tryd.prog 11 #[.agg #[.slice A0_0 l0_0.length c0_0, .slice A0_1 l0_1.length c0_1, .slice A0_2 l0_2.length c0_2, .slice A0_3 l0_3.length c0_3], .int .i64 a1, .agg #[.int .i64 a2_0, .int .i64 a2_1, .int .i64 a2_2], .slice A3 l3.length c3] w fun e w' => ∃ v0_ : Value, e = .returned (.tuple #[v0_, .int .i64 r2]) ∧ Kd.R (Kd.int .i64) 3 w' w.heap.size (fun _ => True) v0_ r1 ∧ Below w.heap.size w w' := by
  unfold ladderbackref19_Step.f at h
  split at h
  · rename_i hc
    have := rstep_w A0_0 c0_0 l0_0 A0_1 c0_1 l0_1 A0_2 c0_2 l0_2 A0_3 c0_3 l0_3 a1 a2_0 a2_1 a2_2 A3 c3 l3 w hr0_0 hr0_1 hr0_2 hr0_3 hr3 hc3 hc.2 (ok_of hc.1)
    rw [Option.some.inj h] at this
    exact this
  · cases h
end Go.Proofs.YthdlocigijiobaaDoor.Given
end

section
/- Printed by a program of this session (wip/pg.py, over the print of the kit): functions, their Lean twins, and the proofs that the calls come to them; each under the conditions that it names. -/
namespace Go.Proofs.YthdlocigijiobaaDoor.PSk
open Go.Proofs.YthdlocigijiobaaDoor.Given
open Go.RowKit Go.Proofs.YthdlocigijiobaaDoorW.PrintWords Go.Proofs.YthdlocigijiobaaDoorW.PrintLast Go.Proofs.YthdlocigijiobaaDoorW.PrintMore
attribute [local go_sem] max2_int min2_int max_two min_two max_three min_three max_four min_four   -- for this text's walks alone
set_option linter.unusedVariables false
set_option linter.unusedSimpArgs false

/-! ### ladderbacklaw19_StackSteps: function 4 -/
def ladderbacklaw19_StackSteps.j0 : Nat → Int → Bool → List (S35) → List (S37) → List (S39) → List (S43) → Int → Int → Int → List Int → Option (Bool)
 | 0, _, _, _, _, _, _, _, _, _, _ => none
 | k + 1, x1, x19, x417000, x417001, x417002, x417003, x418000, x418001, x418002, x418003 => if x19 = true then ((ladderbacklaw19_awake.f k).bind fun t419 => (some t419)) else ((stack_Step.f k x417000 x417001 x417002 x417003 x1 x418000 x418001 x418002 x418003).bind fun bt420 => ((ladderbackref19_Step.f k x417000 x417001 x417002 x417003 x1 x418000 x418001 x418002 x418003).bind fun bt424 => ((ladderbackref15_Ints.f k bt420.1 bt424.1).bind fun t428 => (if t428 = true then (if bt420.2 = bt424.2 then ((ladderbacklaw19_awake.f k).bind fun t429 => (some t429)) else (some false)) else (some false)))))
def ladderbacklaw19_StackSteps.f (k : Nat) (l0_0 : List (S35)) (l0_1 : List (S37)) (l0_2 : List (S39)) (l0_3 : List (S43)) (a1 : Int) (a2_0 : Int) (a2_1 : Int) (a2_2 : Int) (l2_3 : List Int) : Option (Bool) := (ladderbacklaw16_Few.f k l0_0 l0_1 l0_2 l0_3).bind fun t418 => (if t418 = true then (ladderbacklaw19_StackSteps.j0 k a1 (decide ((l2_3.length : Int) > 60)) l0_0 l0_1 l0_2 l0_3 a2_0 a2_1 a2_2 l2_3) else (ladderbacklaw19_StackSteps.j0 k a1 true l0_0 l0_1 l0_2 l0_3 a2_0 a2_1 a2_2 l2_3))
theorem ladderbacklaw19_StackSteps.mono_l : ∀ k, (∀ y0 y1 y2 y3 y4 y5 y6 y7 y8 y9, LeO (ladderbacklaw19_StackSteps.j0 k y0 y1 y2 y3 y4 y5 y6 y7 y8 y9) (ladderbacklaw19_StackSteps.j0 (k + 1) y0 y1 y2 y3 y4 y5 y6 y7 y8 y9))
 | 0 => fun _ _ _ _ _ _ _ _ _ _ r h => by simp [ladderbacklaw19_StackSteps.j0] at h
 | k + 1 => by
  have ih0 := ladderbacklaw19_StackSteps.mono_l k
  ·intro y0 y1 y2 y3 y4 y5 y6 y7 y8 y9
   unfold ladderbacklaw19_StackSteps.j0
   repeat' first
   | (with_reducible exact ih0 _ _ _ _ _ _ _ _ _ _)
   | (with_reducible exact ladderbacklaw16_Few.mono _ _ _ _ _)
   | (with_reducible exact ladderbacklaw19_awake.mono _)
   | (with_reducible exact ladderbackref15_Ints.mono _ _ _)
   | (with_reducible exact ladderbackref19_Step.mono _ _ _ _ _ _ _ _ _ _)
   | (with_reducible exact stack_Step.mono _ _ _ _ _ _ _ _ _ _)
   | (with_reducible exact LeO.refl _)
   | (with_reducible exact LeO.none _)
   | (with_reducible refine LeO.ite ?_ ?_)
   | (with_reducible refine LeO.bind ?_ (fun _ => ?_))
   | exact ih0 _ _ _ _ _ _ _ _ _ _
   | exact ladderbacklaw16_Few.mono _ _ _ _ _
   | exact ladderbacklaw19_awake.mono _
   | exact ladderbackref15_Ints.mono _ _ _
   | exact ladderbackref19_Step.mono _ _ _ _ _ _ _ _ _ _
   | exact stack_Step.mono _ _ _ _ _ _ _ _ _ _
   | exact LeO.none _
   | refine LeO.ite ?_ ?_
   | refine LeO.bind ?_ (fun _ => ?_)
theorem ladderbacklaw19_StackSteps.mono : ∀ a0 a1 a2 a3 a4 a5 a6 a7 a8 k, LeO (ladderbacklaw19_StackSteps.f k a0 a1 a2 a3 a4 a5 a6 a7 a8) (ladderbacklaw19_StackSteps.f (k + 1) a0 a1 a2 a3 a4 a5 a6 a7 a8) := by
 intro a0 a1 a2 a3 a4 a5 a6 a7 a8 k
 have ih0 := ladderbacklaw19_StackSteps.mono_l k
 unfold ladderbacklaw19_StackSteps.f
 repeat' first
   | (with_reducible exact ih0 _ _ _ _ _ _ _ _ _ _)
   | (with_reducible exact ladderbacklaw16_Few.mono _ _ _ _ _)
   | (with_reducible exact ladderbacklaw19_awake.mono _)
   | (with_reducible exact ladderbackref15_Ints.mono _ _ _)
   | (with_reducible exact ladderbackref19_Step.mono _ _ _ _ _ _ _ _ _ _)
   | (with_reducible exact stack_Step.mono _ _ _ _ _ _ _ _ _ _)
   | (with_reducible exact LeO.refl _)
   | (with_reducible exact LeO.none _)
   | (with_reducible refine LeO.ite ?_ ?_)
   | (with_reducible refine LeO.bind ?_ (fun _ => ?_))
   | exact ih0 _ _ _ _ _ _ _ _ _ _
   | exact ladderbacklaw16_Few.mono _ _ _ _ _
   | exact ladderbacklaw19_awake.mono _
   | exact ladderbackref15_Ints.mono _ _ _
   | exact ladderbackref19_Step.mono _ _ _ _ _ _ _ _ _ _
   | exact stack_Step.mono _ _ _ _ _ _ _ _ _ _
   | exact LeO.none _
   | refine LeO.ite ?_ ?_
   | refine LeO.bind ?_ (fun _ => ?_)
set_option maxHeartbeats 8000000 in
set_option maxRecDepth 100000 in
theorem ladderbacklaw19_StackSteps.calls (k : Nat) (A0_0 : Option Addr) (c0_0 : Nat) (l0_0 : List (S35)) (A0_1 : Option Addr) (c0_1 : Nat) (l0_1 : List (S37)) (A0_2 : Option Addr) (c0_2 : Nat) (l0_2 : List (S39)) (A0_3 : Option Addr) (c0_3 : Nat) (l0_3 : List (S43)) (a1 : Int) (a2_0 : Int) (a2_1 : Int) (a2_2 : Int) (A2_3 : Option Addr) (c2_3 : Nat) (l2_3 : List Int) (r : Bool) (w : World) (hr0_0 : Kd.C k35 w A0_0 l0_0.length l0_0) (hc0_0 : l0_0.length ≤ c0_0) (hr0_1 : Kd.C k37 w A0_1 l0_1.length l0_1) (hc0_1 : l0_1.length ≤ c0_1) (hr0_2 : Kd.C k39 w A0_2 l0_2.length l0_2) (hc0_2 : l0_2.length ≤ c0_2) (hr0_3 : Kd.C k43 w A0_3 l0_3.length l0_3) (hc0_3 : l0_3.length ≤ c0_3) (hr2_3 : Kd.C (Kd.int .i64) w A2_3 l2_3.length l2_3) (hc2_3 : l2_3.length ≤ c2_3) (h : ladderbacklaw19_StackSteps.f k l0_0 l0_1 l0_2 l0_3 a1 a2_0 a2_1 a2_2 l2_3 = some r) (hL_ : LaidAll w) :
  Calls Tryd.prog 4 #[.agg #[.slice A0_0 l0_0.length c0_0, .slice A0_1 l0_1.length c0_1, .slice A0_2 l0_2.length c0_2, .slice A0_3 l0_3.length c0_3], .int .i64 a1, .agg #[.int .i64 a2_0, .int .i64 a2_1, .int .i64 a2_2, .slice A2_3 l2_3.length c2_3]] w fun e w' => e = .returned (.bool r) ∧ Below w.heap.size w w' := by
 have HL_ := Aside0.mk hL_
 clear hL_
 have hu27 := Tryd.underlying27
 have hu46 := Tryd.underlying46
 have hu29 := Tryd.underlying29
 have HR0_0 := Aside0.mk hr0_0
 have HC0_0 := Aside0.mk hc0_0
 clear hr0_0 hc0_0
 have HR0_1 := Aside0.mk hr0_1
 have HC0_1 := Aside0.mk hc0_1
 clear hr0_1 hc0_1
 have HR0_2 := Aside0.mk hr0_2
 have HC0_2 := Aside0.mk hc0_2
 clear hr0_2 hc0_2
 have HR0_3 := Aside0.mk hr0_3
 have HC0_3 := Aside0.mk hc0_3
 clear hr0_3 hc0_3
 have HR2_3 := Aside0.mk hr2_3
 have HC2_3 := Aside0.mk hc2_3
 clear hr2_3 hc2_3
 have HB := Aside0.mk (Below.refl w.heap.size w)
 have H : ((ladderbacklaw16_Few.f k l0_0 l0_1 l0_2 l0_3).bind fun t418 => (if t418 = true then (ladderbacklaw19_StackSteps.j0 k a1 (decide ((l2_3.length : Int) > 60)) l0_0 l0_1 l0_2 l0_3 a2_0 a2_1 a2_2 l2_3) else (ladderbacklaw19_StackSteps.j0 k a1 true l0_0 l0_1 l0_2 l0_3 a2_0 a2_1 a2_2 l2_3))) = some r := h
 clear h
 have HC4 := Aside0.mk H
 clear H
 go_enter Tryd.func4, Tryd.ntmps4
 go_upto_region 1 with (first | ((with_reducible refine gate_dst (N := 3) rfl ?_); (try (refine gate_guard (by rfl) ?_; dsimp only)); refine box_event ?hg (N := 3) ?hd (cs := #[.slice A0_0 l0_0.length c0_0, .slice A0_1 l0_1.length c0_1, .slice A0_2 l0_2.length c0_2, .slice A0_3 l0_3.length c0_3]) (t := 27) ?hr ?_; (case hd => rfl); (case hg => rfl); (case hr => first | (go_simp; done) | (go_simp; rfl)); intro gb416 hg w5 hbox hb; have n0_ := Aside0.mk (below_step (by repeat (first | (with_reducible first | exact HB.out | apply below_alloc | apply pw_below_drewN | apply below_drew1) | exact HB.out)) hb); have n1_ := Aside0.mk (hbox); have n2_ := Aside0.mk ((by rw [hg]; exact (below_size (by repeat (first | (with_reducible first | exact HB.out | apply below_alloc | apply pw_below_drewN | apply below_drew1) | exact HB.out))) : w.heap.size ≤ gb416)); have n3_ := Aside0.mk ((by rw [hg]; exact (below_size (by repeat (first | (with_reducible first | exact HB.out | apply below_alloc | apply pw_below_drewN | apply below_drew1) | exact HB.out))) : w.heap.size ≤ gb416)); clear HB; have HB := n0_; have BK416 := n1_; have GW416 := n2_; have GE416 := n3_; clear n0_ n1_ n2_ n3_; clear hb hbox hg) | ((with_reducible refine gate_dst (N := 5) rfl ?_); (try (refine gate_guard (by rfl) ?_; dsimp only)); refine box_event ?hg (N := 5) ?hd (cs := #[.int .i64 a2_0, .int .i64 a2_1, .int .i64 a2_2, .slice A2_3 l2_3.length c2_3]) (t := 46) ?hr ?_; (case hd => rfl); (case hg => rfl); (case hr => first | (go_simp; done) | (go_simp; rfl)); intro gb417 hg w6 hbox hb; have n0_ := Aside0.mk (blk_below (g := gb416) (o := .cells #[.slice A0_0 l0_0.length c0_0, .slice A0_1 l0_1.length c0_1, .slice A0_2 l0_2.length c0_2, .slice A0_3 l0_3.length c0_3] 27 (0, 0)) (by (with_reducible repeat (first | refine blk_drewN ?_ _ | refine blk_drew ?_ | refine blk_alloc ?_ _)); exact BK416.out) hb); have n1_ := Aside0.mk (below_step (by repeat (first | (with_reducible first | exact HB.out | apply below_alloc | apply pw_below_drewN | apply below_drew1 | refine below_set ?_ GE416.out) | exact HB.out)) hb); have n2_ := Aside0.mk (hbox); have n3_ := Aside0.mk ((by rw [hg]; exact (below_size (by repeat (first | (with_reducible first | exact HB.out | apply below_alloc | apply pw_below_drewN | apply below_drew1 | refine below_set ?_ GE416.out) | exact HB.out))) : w.heap.size ≤ gb417)); have n4_ := Aside0.mk ((by rw [hg]; exact (below_size (by repeat (first | (with_reducible first | exact HB.out | apply below_alloc | apply pw_below_drewN | apply below_drew1 | refine below_set ?_ GE416.out) | exact HB.out))) : w.heap.size ≤ gb417)); have n5_ := Aside0.mk ((by rw [hg]; exact Nat.ne_of_lt (blk_lt (g := gb416) (o := .cells #[.slice A0_0 l0_0.length c0_0, .slice A0_1 l0_1.length c0_1, .slice A0_2 l0_2.length c0_2, .slice A0_3 l0_3.length c0_3] 27 (0, 0)) (by (with_reducible repeat (first | refine blk_drewN ?_ _ | refine blk_drew ?_ | refine blk_alloc ?_ _)); exact BK416.out)) : gb416 ≠ gb417)); have n6_ := Aside0.mk ((by rw [hg]; exact Nat.ne_of_gt (blk_lt (g := gb416) (o := .cells #[.slice A0_0 l0_0.length c0_0, .slice A0_1 l0_1.length c0_1, .slice A0_2 l0_2.length c0_2, .slice A0_3 l0_3.length c0_3] 27 (0, 0)) (by (with_reducible repeat (first | refine blk_drewN ?_ _ | refine blk_drew ?_ | refine blk_alloc ?_ _)); exact BK416.out)) : gb417 ≠ gb416)); clear BK416; clear HB; have BK416 := n0_; have HB := n1_; have BK417 := n2_; have GW417 := n3_; have GE417 := n4_; have NB416_417 := n5_; have NB417_416 := n6_; clear n0_ n1_ n2_ n3_ n4_ n5_ n6_; clear hb hbox hg))
 (try simp only [Act.put, List.setIfInBounds_toArray, List.set_cons_zero, List.set_cons_succ])
 go_cut [19] (fun v19 wc => ∃ (kq : Nat) (x19_3 : Bool), v19 = .bool x19_3 ∧ Aside0 (ladderbacklaw19_StackSteps.j0 kq a1 x19_3 l0_0 l0_1 l0_2 l0_3 a2_0 a2_1 a2_2 l2_3 = some r) ∧ Aside0 (kq ≤ k) ∧ Aside0 (wc.heap[gb416]? = some (.cells #[(.slice A0_0 l0_0.length c0_0), (.slice A0_1 l0_1.length c0_1), (.slice A0_2 l0_2.length c0_2), (.slice A0_3 l0_3.length c0_3)] 27 (0, 0))) ∧ Aside0 (wc.heap[gb417]? = some (.cells #[.int .i64 a2_0, .int .i64 a2_1, .int .i64 a2_2, (.slice A2_3 l2_3.length c2_3)] 46 (0, 0))) ∧ Aside0 (Below w.heap.size w wc))
 case first =>
  have H := HC4.out
  clear HC4
  replace H := Option.bind_eq_some_iff.mp H
  obtain ⟨t418, A70, H⟩ := H
  replace H : (if t418 = true then (ladderbacklaw19_StackSteps.j0 k a1 (decide ((l2_3.length : Int) > 60)) l0_0 l0_1 l0_2 l0_3 a2_0 a2_1 a2_2 l2_3) else (ladderbacklaw19_StackSteps.j0 k a1 true l0_0 l0_1 l0_2 l0_3 a2_0 a2_1 a2_2 l2_3)) = some r := H
  have A7 := Aside0.mk A70
  clear A70
  by_cases c8 : t418 = true
  ·subst c8
   have H1 : (ladderbacklaw19_StackSteps.j0 k a1 (decide ((l2_3.length : Int) > 60)) l0_0 l0_1 l0_2 l0_3 a2_0 a2_1 a2_2 l2_3) = some r := by rw [if_pos rfl] at H; exact H
   clear H
   have H := H1
   clear H1
   have H' := Aside0.mk H
   clear H
   have hnb9 := NB416_417.out
   have hnc9 := NB417_416.out
   have hcz10_0 : w6.cell? ⟨gb416, 0, none⟩ = some (.slice A0_0 l0_0.length c0_0) := (blk_cell BK416.out 0).trans rfl
   have hcz10_1 : w6.cell? ⟨gb416, 1, none⟩ = some (.slice A0_1 l0_1.length c0_1) := (blk_cell BK416.out 1).trans rfl
   have hcz10_2 : w6.cell? ⟨gb416, 2, none⟩ = some (.slice A0_2 l0_2.length c0_2) := (blk_cell BK416.out 2).trans rfl
   have hcz10_3 : w6.cell? ⟨gb416, 3, none⟩ = some (.slice A0_3 l0_3.length c0_3) := (blk_cell BK416.out 3).trans rfl
   have hfz10_0 := blk_frozen BK416.out 0
   have hfz10_1 := blk_frozen BK416.out 1
   have hfz10_2 := blk_frozen BK416.out 2
   have hfz10_3 := blk_frozen BK416.out 3
   go_wp2_with (first | ((with_reducible refine gate_callee (f := 6) rfl ?_); refine goesL_ (some 12) rfl rfl Tryd.func6 (by kernel_rfl) rfl #[.agg #[.slice A0_0 l0_0.length c0_0, .slice A0_1 l0_1.length c0_1, .slice A0_2 l0_2.length c0_2, .slice A0_3 l0_3.length c0_3]] rfl (by (try simp only [List.map_toArray, List.map_cons, List.map_nil]); first | done | rfl | (simp only [List.length_drop, List.length_take]; rfl)) ?_; (with_reducible refine (ladderbacklaw16_Few.calls k _ _ l0_0 _ _ l0_1 _ _ l0_2 _ _ l0_3 true _ ?side1 ?side2 ?side3 ?side4 ?side5 ?side6 ?side7 ?side8 A7.out).mono ?_); (case side1 => repeat (first | exact (Kd.C_below HR0_0.out HB.out) | (with_reducible refine Kd.C_alloc ?_ _) | (with_reducible refine Kd.C_drewN ?_ _) | (with_reducible refine Kd.C_drew ?_))); (case side2 => exact HC0_0.out); (case side3 => repeat (first | exact (Kd.C_below HR0_1.out HB.out) | (with_reducible refine Kd.C_alloc ?_ _) | (with_reducible refine Kd.C_drewN ?_ _) | (with_reducible refine Kd.C_drew ?_))); (case side4 => exact HC0_1.out); (case side5 => repeat (first | exact (Kd.C_below HR0_2.out HB.out) | (with_reducible refine Kd.C_alloc ?_ _) | (with_reducible refine Kd.C_drewN ?_ _) | (with_reducible refine Kd.C_drew ?_))); (case side6 => exact HC0_2.out); (case side7 => repeat (first | exact (Kd.C_below HR0_3.out HB.out) | (with_reducible refine Kd.C_alloc ?_ _) | (with_reducible refine Kd.C_drewN ?_ _) | (with_reducible refine Kd.C_drew ?_))); (case side8 => exact HC0_3.out); rintro e w11 ⟨rfl, hb⟩; refine ⟨_, rfl, ?_⟩; have n0_ := Aside0.mk (blk_below (g := gb416) (o := .cells #[.slice A0_0 l0_0.length c0_0, .slice A0_1 l0_1.length c0_1, .slice A0_2 l0_2.length c0_2, .slice A0_3 l0_3.length c0_3] 27 (0, 0)) (by (with_reducible repeat (first | refine blk_drewN ?_ _ | refine blk_drew ?_ | refine blk_alloc ?_ _)); exact BK416.out) hb); have n1_ := Aside0.mk (blk_below (g := gb417) (o := .cells #[.int .i64 a2_0, .int .i64 a2_1, .int .i64 a2_2, .slice A2_3 l2_3.length c2_3] 46 (0, 0)) (by (with_reducible repeat (first | refine blk_drewN ?_ _ | refine blk_drew ?_ | refine blk_alloc ?_ _)); exact BK417.out) hb); have n2_ := Aside0.mk (below_step (by repeat (first | (with_reducible first | exact HB.out | apply below_alloc | apply pw_below_drewN | apply below_drew1 | refine below_set ?_ GE416.out | refine below_set ?_ GE417.out) | exact HB.out)) hb); clear BK416; clear BK417; clear HB; have BK416 := n0_; have BK417 := n1_; have HB := n2_; clear n0_ n1_ n2_; (try clear hb); (try clear hb2); (try clear hk); (try clear hi); have hcz12_0 : w11.cell? ⟨gb417, 0, none⟩ = some (.int .i64 a2_0) := (blk_cell BK417.out 0).trans rfl; have hcz12_1 : w11.cell? ⟨gb417, 1, none⟩ = some (.int .i64 a2_1) := (blk_cell BK417.out 1).trans rfl; have hcz12_2 : w11.cell? ⟨gb417, 2, none⟩ = some (.int .i64 a2_2) := (blk_cell BK417.out 2).trans rfl; have hcz12_3 : w11.cell? ⟨gb417, 3, none⟩ = some (.slice A2_3 l2_3.length c2_3) := (blk_cell BK417.out 3).trans rfl; have hfz12_0 := blk_frozen BK417.out 0; have hfz12_1 := blk_frozen BK417.out 1; have hfz12_2 := blk_frozen BK417.out 2; have hfz12_3 := blk_frozen BK417.out 3))
   go_meet
   case rel => exact ⟨_, (decide ((l2_3.length : Int) > 60)), (by first | rfl | (simp; done) | (simp [*]; done)), H', ⟨by first | omega | exact Nat.le_refl _⟩, ⟨by (with_reducible repeat (first | refine blk_drewN ?_ _ | refine blk_drew ?_ | refine blk_alloc ?_ _)); exact BK416.out⟩, ⟨by (with_reducible repeat (first | refine blk_drewN ?_ _ | refine blk_drew ?_ | refine blk_alloc ?_ _)); exact BK417.out⟩, ⟨by repeat (first | (with_reducible first | exact HB.out | apply below_alloc | apply pw_below_drewN | apply below_drew1 | refine below_set ?_ GE416.out | refine below_set ?_ GE417.out) | exact HB.out)⟩⟩
  ·replace c8 := Bool.eq_false_iff.mpr c8
   subst c8
   have H1 : (ladderbacklaw19_StackSteps.j0 k a1 true l0_0 l0_1 l0_2 l0_3 a2_0 a2_1 a2_2 l2_3) = some r := by rw [if_neg (show ¬ (false = true) by decide)] at H; exact H
   clear H
   have H := H1
   clear H1
   have H' := Aside0.mk H
   clear H
   have hnb13 := NB416_417.out
   have hnc13 := NB417_416.out
   have hcz14_0 : w6.cell? ⟨gb416, 0, none⟩ = some (.slice A0_0 l0_0.length c0_0) := (blk_cell BK416.out 0).trans rfl
   have hcz14_1 : w6.cell? ⟨gb416, 1, none⟩ = some (.slice A0_1 l0_1.length c0_1) := (blk_cell BK416.out 1).trans rfl
   have hcz14_2 : w6.cell? ⟨gb416, 2, none⟩ = some (.slice A0_2 l0_2.length c0_2) := (blk_cell BK416.out 2).trans rfl
   have hcz14_3 : w6.cell? ⟨gb416, 3, none⟩ = some (.slice A0_3 l0_3.length c0_3) := (blk_cell BK416.out 3).trans rfl
   have hfz14_0 := blk_frozen BK416.out 0
   have hfz14_1 := blk_frozen BK416.out 1
   have hfz14_2 := blk_frozen BK416.out 2
   have hfz14_3 := blk_frozen BK416.out 3
   go_wp2_with (first | ((with_reducible refine gate_callee (f := 6) rfl ?_); refine goesL_ (some 12) rfl rfl Tryd.func6 (by kernel_rfl) rfl #[.agg #[.slice A0_0 l0_0.length c0_0, .slice A0_1 l0_1.length c0_1, .slice A0_2 l0_2.length c0_2, .slice A0_3 l0_3.length c0_3]] rfl (by (try simp only [List.map_toArray, List.map_cons, List.map_nil]); first | done | rfl | (simp only [List.length_drop, List.length_take]; rfl)) ?_; (with_reducible refine (ladderbacklaw16_Few.calls k _ _ l0_0 _ _ l0_1 _ _ l0_2 _ _ l0_3 false _ ?side1 ?side2 ?side3 ?side4 ?side5 ?side6 ?side7 ?side8 A7.out).mono ?_); (case side1 => repeat (first | exact (Kd.C_below HR0_0.out HB.out) | (with_reducible refine Kd.C_alloc ?_ _) | (with_reducible refine Kd.C_drewN ?_ _) | (with_reducible refine Kd.C_drew ?_))); (case side2 => exact HC0_0.out); (case side3 => repeat (first | exact (Kd.C_below HR0_1.out HB.out) | (with_reducible refine Kd.C_alloc ?_ _) | (with_reducible refine Kd.C_drewN ?_ _) | (with_reducible refine Kd.C_drew ?_))); (case side4 => exact HC0_1.out); (case side5 => repeat (first | exact (Kd.C_below HR0_2.out HB.out) | (with_reducible refine Kd.C_alloc ?_ _) | (with_reducible refine Kd.C_drewN ?_ _) | (with_reducible refine Kd.C_drew ?_))); (case side6 => exact HC0_2.out); (case side7 => repeat (first | exact (Kd.C_below HR0_3.out HB.out) | (with_reducible refine Kd.C_alloc ?_ _) | (with_reducible refine Kd.C_drewN ?_ _) | (with_reducible refine Kd.C_drew ?_))); (case side8 => exact HC0_3.out); rintro e w15 ⟨rfl, hb⟩; refine ⟨_, rfl, ?_⟩; have n0_ := Aside0.mk (blk_below (g := gb416) (o := .cells #[.slice A0_0 l0_0.length c0_0, .slice A0_1 l0_1.length c0_1, .slice A0_2 l0_2.length c0_2, .slice A0_3 l0_3.length c0_3] 27 (0, 0)) (by (with_reducible repeat (first | refine blk_drewN ?_ _ | refine blk_drew ?_ | refine blk_alloc ?_ _)); exact BK416.out) hb); have n1_ := Aside0.mk (blk_below (g := gb417) (o := .cells #[.int .i64 a2_0, .int .i64 a2_1, .int .i64 a2_2, .slice A2_3 l2_3.length c2_3] 46 (0, 0)) (by (with_reducible repeat (first | refine blk_drewN ?_ _ | refine blk_drew ?_ | refine blk_alloc ?_ _)); exact BK417.out) hb); have n2_ := Aside0.mk (below_step (by repeat (first | (with_reducible first | exact HB.out | apply below_alloc | apply pw_below_drewN | apply below_drew1 | refine below_set ?_ GE416.out | refine below_set ?_ GE417.out) | exact HB.out)) hb); clear BK416; clear BK417; clear HB; have BK416 := n0_; have BK417 := n1_; have HB := n2_; clear n0_ n1_ n2_; (try clear hb); (try clear hb2); (try clear hk); (try clear hi)))
   go_meet
   case rel => exact ⟨_, (true), (by first | rfl | (simp; done) | (simp [*]; done)), H', ⟨by first | omega | exact Nat.le_refl _⟩, ⟨by (with_reducible repeat (first | refine blk_drewN ?_ _ | refine blk_drew ?_ | refine blk_alloc ?_ _)); exact BK416.out⟩, ⟨by (with_reducible repeat (first | refine blk_drewN ?_ _ | refine blk_drew ?_ | refine blk_alloc ?_ _)); exact BK417.out⟩, ⟨by repeat (first | (with_reducible first | exact HB.out | apply below_alloc | apply pw_below_drewN | apply below_drew1 | refine below_set ?_ GE416.out | refine below_set ?_ GE417.out) | exact HB.out)⟩⟩
 case rest =>
  clear HC4
  try clear c1
  try clear c2
  try clear p2
  try clear c4
  try clear c6
  try clear c8
  try clear c9
  try clear c13
  try clear hcz10_0
  try clear hcz10_1
  try clear hcz10_2
  try clear hcz10_3
  try clear hcz12_0
  try clear hcz12_1
  try clear hcz12_2
  try clear hcz12_3
  try clear hcz14_0
  try clear hcz14_1
  try clear hcz14_2
  try clear hcz14_3
  try clear hfz10_0
  try clear hfz10_1
  try clear hfz10_2
  try clear hfz10_3
  try clear hfz12_0
  try clear hfz12_1
  try clear hfz12_2
  try clear hfz12_3
  try clear hfz14_0
  try clear hfz14_1
  try clear hfz14_2
  try clear hfz14_3
  obtain ⟨kq, x19_3, rfl, HA, HJ3, BK416, BK417, HB⟩ := hcut
  cases kq with
  | zero => exact absurd HA.out (by simp [ladderbacklaw19_StackSteps.j0])
  | succ kj3 =>
   have H := HA.out
   clear HA
   simp only [ladderbacklaw19_StackSteps.j0] at H
   by_cases c16 : x19_3 = true
   ·subst c16
    have H1 : ((ladderbacklaw19_awake.f kj3).bind fun t419 => (some t419)) = some r := by rw [if_pos rfl] at H; exact H
    clear H
    have H := H1
    clear H1
    replace H := Option.bind_eq_some_iff.mp H
    obtain ⟨t419, A170, H⟩ := H
    replace H : (some t419) = some r := H
    have A17 := Aside0.mk A170
    clear A170
    obtain rfl := Option.some.inj H
    go_wp2_with (first | ((with_reducible refine gate_callee (f := 9) rfl ?_); refine goesL_ (some 20) rfl rfl Tryd.func9 (by kernel_rfl) rfl #[] rfl (by (try simp only [List.map_toArray, List.map_cons, List.map_nil]); first | done | rfl | (simp only [List.length_drop, List.length_take]; rfl)) ?_; (with_reducible refine (ladderbacklaw19_awake.calls kj3  t419 _ A17.out (LaidAll.below HL_.out (by repeat (first | (with_reducible first | exact HB.out | apply below_alloc | apply pw_below_drewN | apply below_drew1 | refine below_set ?_ GE416.out | refine below_set ?_ GE417.out) | exact HB.out)))).mono ?_); rintro e w18 ⟨rfl, hb⟩; refine ⟨_, rfl, ?_⟩; have n0_ := Aside0.mk (blk_below (g := gb416) (o := .cells #[.slice A0_0 l0_0.length c0_0, .slice A0_1 l0_1.length c0_1, .slice A0_2 l0_2.length c0_2, .slice A0_3 l0_3.length c0_3] 27 (0, 0)) (by (with_reducible repeat (first | refine blk_drewN ?_ _ | refine blk_drew ?_ | refine blk_alloc ?_ _)); exact BK416.out) hb); have n1_ := Aside0.mk (blk_below (g := gb417) (o := .cells #[.int .i64 a2_0, .int .i64 a2_1, .int .i64 a2_2, .slice A2_3 l2_3.length c2_3] 46 (0, 0)) (by (with_reducible repeat (first | refine blk_drewN ?_ _ | refine blk_drew ?_ | refine blk_alloc ?_ _)); exact BK417.out) hb); have n2_ := Aside0.mk (below_step (by repeat (first | (with_reducible first | exact HB.out | apply below_alloc | apply pw_below_drewN | apply below_drew1 | refine below_set ?_ GE416.out | refine below_set ?_ GE417.out) | exact HB.out)) hb); clear BK416; clear BK417; clear HB; have BK416 := n0_; have BK417 := n1_; have HB := n2_; clear n0_ n1_ n2_; (try clear hb); (try clear hb2); (try clear hk); (try clear hi)))
    go_ret
    exact ⟨by first | rfl | (simp [errW_none, errW_some] <;> rfl) | (simp [*, errW_none, errW_some] <;> rfl), by repeat (first | (with_reducible first | exact HB.out | apply below_alloc | apply pw_below_drewN | apply below_drew1 | refine below_set ?_ GE416.out | refine below_set ?_ GE417.out) | exact HB.out)⟩
   ·replace c16 := Bool.eq_false_iff.mpr c16
    subst c16
    have H1 : ((stack_Step.f kj3 l0_0 l0_1 l0_2 l0_3 a1 a2_0 a2_1 a2_2 l2_3).bind fun bt420 => ((ladderbackref19_Step.f kj3 l0_0 l0_1 l0_2 l0_3 a1 a2_0 a2_1 a2_2 l2_3).bind fun bt424 => ((ladderbackref15_Ints.f kj3 bt420.1 bt424.1).bind fun t428 => (if t428 = true then (if bt420.2 = bt424.2 then ((ladderbacklaw19_awake.f kj3).bind fun t429 => (some t429)) else (some false)) else (some false))))) = some r := by rw [if_neg (show ¬ (false = true) by decide)] at H; exact H
    clear H
    have H := H1
    clear H1
    replace H := Option.bind_eq_some_iff.mp H
    obtain ⟨⟨t420, t423⟩, A190, H⟩ := H
    replace H : ((ladderbackref19_Step.f kj3 l0_0 l0_1 l0_2 l0_3 a1 a2_0 a2_1 a2_2 l2_3).bind fun bt424 => ((ladderbackref15_Ints.f kj3 t420 bt424.1).bind fun t428 => (if t428 = true then (if t423 = bt424.2 then ((ladderbacklaw19_awake.f kj3).bind fun t429 => (some t429)) else (some false)) else (some false)))) = some r := H
    have A19 := Aside0.mk A190
    clear A190
    replace H := Option.bind_eq_some_iff.mp H
    obtain ⟨⟨t424, t427⟩, A200, H⟩ := H
    replace H : ((ladderbackref15_Ints.f kj3 t420 t424).bind fun t428 => (if t428 = true then (if t423 = t427 then ((ladderbacklaw19_awake.f kj3).bind fun t429 => (some t429)) else (some false)) else (some false))) = some r := H
    have A20 := Aside0.mk A200
    clear A200
    replace H := Option.bind_eq_some_iff.mp H
    obtain ⟨t428, A210, H⟩ := H
    replace H : (if t428 = true then (if t423 = t427 then ((ladderbacklaw19_awake.f kj3).bind fun t429 => (some t429)) else (some false)) else (some false)) = some r := H
    have A21 := Aside0.mk A210
    clear A210
    by_cases c22 : t428 = true
    ·subst c22
     have H1 : (if t423 = t427 then ((ladderbacklaw19_awake.f kj3).bind fun t429 => (some t429)) else (some false)) = some r := by rw [if_pos rfl] at H; exact H
     clear H
     have H := H1
     clear H1
     by_cases c23 : t423 = t427
     ·rw [if_pos c23] at H
      have c23b0 : (t423 == t427) = true := beq_iff_eq.mpr c23
      have c23b1 : (t423 != t427) = false := bne_eq_false_iff_eq.mpr c23
      clear c23
      replace H := Option.bind_eq_some_iff.mp H
      obtain ⟨t429, A240, H⟩ := H
      replace H : (some t429) = some r := H
      have A24 := Aside0.mk A240
      clear A240
      obtain rfl := Option.some.inj H
      have hnb25 := NB416_417.out
      have hnc25 := NB417_416.out
      have hcz26_0 : wc.cell? ⟨gb416, 0, none⟩ = some (.slice A0_0 l0_0.length c0_0) := (blk_cell BK416.out 0).trans rfl
      have hcz26_1 : wc.cell? ⟨gb416, 1, none⟩ = some (.slice A0_1 l0_1.length c0_1) := (blk_cell BK416.out 1).trans rfl
      have hcz26_2 : wc.cell? ⟨gb416, 2, none⟩ = some (.slice A0_2 l0_2.length c0_2) := (blk_cell BK416.out 2).trans rfl
      have hcz26_3 : wc.cell? ⟨gb416, 3, none⟩ = some (.slice A0_3 l0_3.length c0_3) := (blk_cell BK416.out 3).trans rfl
      have hfz26_0 := blk_frozen BK416.out 0
      have hfz26_1 := blk_frozen BK416.out 1
      have hfz26_2 := blk_frozen BK416.out 2
      have hfz26_3 := blk_frozen BK416.out 3
      have hcz27_0 : wc.cell? ⟨gb417, 0, none⟩ = some (.int .i64 a2_0) := (blk_cell BK417.out 0).trans rfl
      have hcz27_1 : wc.cell? ⟨gb417, 1, none⟩ = some (.int .i64 a2_1) := (blk_cell BK417.out 1).trans rfl
      have hcz27_2 : wc.cell? ⟨gb417, 2, none⟩ = some (.int .i64 a2_2) := (blk_cell BK417.out 2).trans rfl
      have hcz27_3 : wc.cell? ⟨gb417, 3, none⟩ = some (.slice A2_3 l2_3.length c2_3) := (blk_cell BK417.out 3).trans rfl
      have hfz27_0 := blk_frozen BK417.out 0
      have hfz27_1 := blk_frozen BK417.out 1
      have hfz27_2 := blk_frozen BK417.out 2
      have hfz27_3 := blk_frozen BK417.out 3
      go_wp2_with (first | ((with_reducible refine gate_callee (f := 10) rfl ?_); refine goesL_ (some 28) rfl rfl Tryd.func10 (by kernel_rfl) rfl #[.agg #[.slice A0_0 l0_0.length c0_0, .slice A0_1 l0_1.length c0_1, .slice A0_2 l0_2.length c0_2, .slice A0_3 l0_3.length c0_3], .int .i64 a1, .agg #[.int .i64 a2_0, .int .i64 a2_1, .int .i64 a2_2], .slice A2_3 l2_3.length c2_3] rfl (by (try simp only [List.map_toArray, List.map_cons, List.map_nil]); first | done | rfl | (simp only [List.length_drop, List.length_take]; rfl)) ?_; (with_reducible refine (stack_Step.calls kj3 _ _ l0_0 _ _ l0_1 _ _ l0_2 _ _ l0_3 a1 a2_0 a2_1 a2_2 _ _ l2_3 t420 t423 _ ?side1 ?side2 ?side3 ?side4 ?side5 ?side6 ?side7 ?side8 ?side9 ?side10 A19.out (LaidAll.below HL_.out (by repeat (first | (with_reducible first | exact HB.out | apply below_alloc | apply pw_below_drewN | apply below_drew1 | refine below_set ?_ GE416.out | refine below_set ?_ GE417.out) | exact HB.out)))).mono ?_); (case side1 => repeat (first | exact (Kd.C_below HR0_0.out HB.out) | (with_reducible refine Kd.C_alloc ?_ _) | (with_reducible refine Kd.C_drewN ?_ _) | (with_reducible refine Kd.C_drew ?_))); (case side2 => exact HC0_0.out); (case side3 => repeat (first | exact (Kd.C_below HR0_1.out HB.out) | (with_reducible refine Kd.C_alloc ?_ _) | (with_reducible refine Kd.C_drewN ?_ _) | (with_reducible refine Kd.C_drew ?_))); (case side4 => exact HC0_1.out); (case side5 => repeat (first | exact (Kd.C_below HR0_2.out HB.out) | (with_reducible refine Kd.C_alloc ?_ _) | (with_reducible refine Kd.C_drewN ?_ _) | (with_reducible refine Kd.C_drew ?_))); (case side6 => exact HC0_2.out); (case side7 => repeat (first | exact (Kd.C_below HR0_3.out HB.out) | (with_reducible refine Kd.C_alloc ?_ _) | (with_reducible refine Kd.C_drewN ?_ _) | (with_reducible refine Kd.C_drew ?_))); (case side8 => exact HC0_3.out); (case side9 => repeat (first | exact (Kd.C_below HR2_3.out HB.out) | (with_reducible refine Kd.C_alloc ?_ _) | (with_reducible refine Kd.C_drewN ?_ _) | (with_reducible refine Kd.C_drew ?_))); (case side10 => exact HC2_3.out); rintro e w28 ⟨v421, rfl, ho0, hb⟩; refine ⟨_, rfl, ?_⟩; have n0_ := Aside0.mk (Kd.R_lower ho0 (below_size (by repeat (first | (with_reducible first | exact HB.out | apply below_alloc | apply pw_below_drewN | apply below_drew1 | refine below_set ?_ GE416.out | refine below_set ?_ GE417.out) | exact HB.out)))); have n1_ := Aside0.mk (blk_below (g := gb416) (o := .cells #[.slice A0_0 l0_0.length c0_0, .slice A0_1 l0_1.length c0_1, .slice A0_2 l0_2.length c0_2, .slice A0_3 l0_3.length c0_3] 27 (0, 0)) (by (with_reducible repeat (first | refine blk_drewN ?_ _ | refine blk_drew ?_ | refine blk_alloc ?_ _)); exact BK416.out) hb); have n2_ := Aside0.mk (blk_below (g := gb417) (o := .cells #[.int .i64 a2_0, .int .i64 a2_1, .int .i64 a2_2, .slice A2_3 l2_3.length c2_3] 46 (0, 0)) (by (with_reducible repeat (first | refine blk_drewN ?_ _ | refine blk_drew ?_ | refine blk_alloc ?_ _)); exact BK417.out) hb); have n3_ := Aside0.mk (below_step (by repeat (first | (with_reducible first | exact HB.out | apply below_alloc | apply pw_below_drewN | apply below_drew1 | refine below_set ?_ GE416.out | refine below_set ?_ GE417.out) | exact HB.out)) hb); clear BK416; clear BK417; clear HB; have HO422 := n0_; have BK416 := n1_; have BK417 := n2_; have HB := n3_; clear n0_ n1_ n2_ n3_; (try clear hb); (try clear hb2); (try clear hk); (try clear hi); (try clear ho0); have hcz29_0 : w28.cell? ⟨gb416, 0, none⟩ = some (.slice A0_0 l0_0.length c0_0) := (blk_cell BK416.out 0).trans rfl; have hcz29_1 : w28.cell? ⟨gb416, 1, none⟩ = some (.slice A0_1 l0_1.length c0_1) := (blk_cell BK416.out 1).trans rfl; have hcz29_2 : w28.cell? ⟨gb416, 2, none⟩ = some (.slice A0_2 l0_2.length c0_2) := (blk_cell BK416.out 2).trans rfl; have hcz29_3 : w28.cell? ⟨gb416, 3, none⟩ = some (.slice A0_3 l0_3.length c0_3) := (blk_cell BK416.out 3).trans rfl; have hfz29_0 := blk_frozen BK416.out 0; have hfz29_1 := blk_frozen BK416.out 1; have hfz29_2 := blk_frozen BK416.out 2; have hfz29_3 := blk_frozen BK416.out 3; have hcz30_0 : w28.cell? ⟨gb417, 0, none⟩ = some (.int .i64 a2_0) := (blk_cell BK417.out 0).trans rfl; have hcz30_1 : w28.cell? ⟨gb417, 1, none⟩ = some (.int .i64 a2_1) := (blk_cell BK417.out 1).trans rfl; have hcz30_2 : w28.cell? ⟨gb417, 2, none⟩ = some (.int .i64 a2_2) := (blk_cell BK417.out 2).trans rfl; have hcz30_3 : w28.cell? ⟨gb417, 3, none⟩ = some (.slice A2_3 l2_3.length c2_3) := (blk_cell BK417.out 3).trans rfl; have hfz30_0 := blk_frozen BK417.out 0; have hfz30_1 := blk_frozen BK417.out 1; have hfz30_2 := blk_frozen BK417.out 2; have hfz30_3 := blk_frozen BK417.out 3) | ((with_reducible refine gate_callee (f := 11) rfl ?_); refine goesL_ (some 38) rfl rfl Tryd.func11 (by kernel_rfl) rfl #[.agg #[.slice A0_0 l0_0.length c0_0, .slice A0_1 l0_1.length c0_1, .slice A0_2 l0_2.length c0_2, .slice A0_3 l0_3.length c0_3], .int .i64 a1, .agg #[.int .i64 a2_0, .int .i64 a2_1, .int .i64 a2_2], .slice A2_3 l2_3.length c2_3] rfl (by (try simp only [List.map_toArray, List.map_cons, List.map_nil]); first | done | rfl | (simp only [List.length_drop, List.length_take]; rfl)) ?_; (with_reducible refine (ladderbackref19_Step.calls kj3 _ _ l0_0 _ _ l0_1 _ _ l0_2 _ _ l0_3 a1 a2_0 a2_1 a2_2 _ _ l2_3 t424 t427 _ ?side1 ?side2 ?side3 ?side4 ?side5 ?side6 ?side7 ?side8 ?side9 ?side10 A20.out).mono ?_); (case side1 => repeat (first | exact (Kd.C_below HR0_0.out HB.out) | (with_reducible refine Kd.C_alloc ?_ _) | (with_reducible refine Kd.C_drewN ?_ _) | (with_reducible refine Kd.C_drew ?_))); (case side2 => exact HC0_0.out); (case side3 => repeat (first | exact (Kd.C_below HR0_1.out HB.out) | (with_reducible refine Kd.C_alloc ?_ _) | (with_reducible refine Kd.C_drewN ?_ _) | (with_reducible refine Kd.C_drew ?_))); (case side4 => exact HC0_1.out); (case side5 => repeat (first | exact (Kd.C_below HR0_2.out HB.out) | (with_reducible refine Kd.C_alloc ?_ _) | (with_reducible refine Kd.C_drewN ?_ _) | (with_reducible refine Kd.C_drew ?_))); (case side6 => exact HC0_2.out); (case side7 => repeat (first | exact (Kd.C_below HR0_3.out HB.out) | (with_reducible refine Kd.C_alloc ?_ _) | (with_reducible refine Kd.C_drewN ?_ _) | (with_reducible refine Kd.C_drew ?_))); (case side8 => exact HC0_3.out); (case side9 => repeat (first | exact (Kd.C_below HR2_3.out HB.out) | (with_reducible refine Kd.C_alloc ?_ _) | (with_reducible refine Kd.C_drewN ?_ _) | (with_reducible refine Kd.C_drew ?_))); (case side10 => exact HC2_3.out); rintro e w31 ⟨v425, rfl, ho0, hb⟩; refine ⟨_, rfl, ?_⟩; have n0_ := Aside0.mk (Kd.R_elder' (by (with_reducible repeat (first | apply Kd.R_alloc | apply Kd.R_drewN | apply Kd.R_drew)); exact HO422.out) (Kd.R_base ho0) hb); have n1_ := Aside0.mk (Kd.R_lower (Kd.R_new' ho0 (Kd.R_lt (by (with_reducible repeat (first | apply Kd.R_alloc | apply Kd.R_drewN | apply Kd.R_drew)); exact HO422.out))) (below_size (by repeat (first | (with_reducible first | exact HB.out | apply below_alloc | apply pw_below_drewN | apply below_drew1 | refine below_set ?_ GE416.out | refine below_set ?_ GE417.out) | exact HB.out)))); have n2_ := Aside0.mk (blk_below (g := gb416) (o := .cells #[.slice A0_0 l0_0.length c0_0, .slice A0_1 l0_1.length c0_1, .slice A0_2 l0_2.length c0_2, .slice A0_3 l0_3.length c0_3] 27 (0, 0)) (by (with_reducible repeat (first | refine blk_drewN ?_ _ | refine blk_drew ?_ | refine blk_alloc ?_ _)); exact BK416.out) hb); have n3_ := Aside0.mk (blk_below (g := gb417) (o := .cells #[.int .i64 a2_0, .int .i64 a2_1, .int .i64 a2_2, .slice A2_3 l2_3.length c2_3] 46 (0, 0)) (by (with_reducible repeat (first | refine blk_drewN ?_ _ | refine blk_drew ?_ | refine blk_alloc ?_ _)); exact BK417.out) hb); have n4_ := Aside0.mk (below_step (by repeat (first | (with_reducible first | exact HB.out | apply below_alloc | apply pw_below_drewN | apply below_drew1 | refine below_set ?_ GE416.out | refine below_set ?_ GE417.out) | exact HB.out)) hb); clear HO422; clear BK416; clear BK417; clear HB; have HO422 := n0_; have HO426 := n1_; have BK416 := n2_; have BK417 := n3_; have HB := n4_; clear n0_ n1_ n2_ n3_ n4_; (try clear hb); (try clear hb2); (try clear hk); (try clear hi); (try clear ho0); obtain ⟨Ao32, co32, eo32⟩ := Kd.R_slice HO422.out; subst eo32; obtain ⟨Ao33, co33, eo33⟩ := Kd.R_slice HO426.out; subst eo33) | ((with_reducible refine gate_callee (f := 12) rfl ?_); refine goesL_ (some 43) rfl rfl Tryd.func12 (by kernel_rfl) rfl #[.slice Ao32 t420.length co32, .slice Ao33 t424.length co33] rfl (by (try simp only [List.map_toArray, List.map_cons, List.map_nil]); first | done | rfl | (simp only [List.length_drop, List.length_take]; rfl)) ?_; (with_reducible refine (ladderbackref15_Ints.calls kj3 _ _ t420 _ _ t424 true _ ?side1 ?side2 ?side3 ?side4 A21.out).mono ?_); (case side1 => repeat (first | exact (Kd.R_reads' HO422.out).2.2 | (with_reducible refine Kd.C_alloc ?_ _) | (with_reducible refine Kd.C_drewN ?_ _) | (with_reducible refine Kd.C_drew ?_))); (case side2 => exact (Kd.R_reads' HO422.out).2.1); (case side3 => repeat (first | exact (Kd.R_reads' HO426.out).2.2 | (with_reducible refine Kd.C_alloc ?_ _) | (with_reducible refine Kd.C_drewN ?_ _) | (with_reducible refine Kd.C_drew ?_))); (case side4 => exact (Kd.R_reads' HO426.out).2.1); rintro e w' ⟨rfl, ⟨nd, rfl⟩⟩; refine ⟨_, rfl, ?_⟩) | (go_at_call 9; (with_reducible refine (ladderbacklaw19_awake.calls kj3  t429 _ A24.out (LaidAll.below HL_.out (by repeat (first | (with_reducible first | exact HB.out | apply below_alloc | apply pw_below_drewN | apply below_drew1 | refine below_set ?_ GE416.out | refine below_set ?_ GE417.out) | exact HB.out)))).mono ?_); rintro e w34 ⟨rfl, hb⟩; have n0_ := Aside0.mk (Kd.R_below (by (with_reducible repeat (first | apply Kd.R_alloc | apply Kd.R_drewN | apply Kd.R_drew)); exact HO422.out) hb); have n1_ := Aside0.mk (Kd.R_below (by (with_reducible repeat (first | apply Kd.R_alloc | apply Kd.R_drewN | apply Kd.R_drew)); exact HO426.out) hb); have n2_ := Aside0.mk (blk_below (g := gb416) (o := .cells #[.slice A0_0 l0_0.length c0_0, .slice A0_1 l0_1.length c0_1, .slice A0_2 l0_2.length c0_2, .slice A0_3 l0_3.length c0_3] 27 (0, 0)) (by (with_reducible repeat (first | refine blk_drewN ?_ _ | refine blk_drew ?_ | refine blk_alloc ?_ _)); exact BK416.out) hb); have n3_ := Aside0.mk (blk_below (g := gb417) (o := .cells #[.int .i64 a2_0, .int .i64 a2_1, .int .i64 a2_2, .slice A2_3 l2_3.length c2_3] 46 (0, 0)) (by (with_reducible repeat (first | refine blk_drewN ?_ _ | refine blk_drew ?_ | refine blk_alloc ?_ _)); exact BK417.out) hb); have n4_ := Aside0.mk (below_step (by repeat (first | (with_reducible first | exact HB.out | apply below_alloc | apply pw_below_drewN | apply below_drew1 | refine below_set ?_ GE416.out | refine below_set ?_ GE417.out) | exact HB.out)) hb); clear HO422; clear HO426; clear BK416; clear BK417; clear HB; have HO422 := n0_; have HO426 := n1_; have BK416 := n2_; have BK417 := n3_; have HB := n4_; clear n0_ n1_ n2_ n3_ n4_; (try clear hb); (try clear hb2); (try clear hk); (try clear hi)))
      go_ret
      exact ⟨by first | rfl | (simp [errW_none, errW_some] <;> rfl) | (simp [*, errW_none, errW_some] <;> rfl), by repeat (first | (with_reducible first | exact HB.out | apply below_alloc | apply pw_below_drewN | apply below_drew1 | refine below_set ?_ GE416.out | refine below_set ?_ GE417.out) | exact HB.out)⟩
     ·rw [if_neg c23] at H
      have c23b0 : (t423 == t427) = false := beq_eq_false_iff_ne.mpr c23
      have c23b1 : (t423 != t427) = true := bne_iff_ne.mpr c23
      obtain rfl := Option.some.inj H
      have hnb35 := NB416_417.out
      have hnc35 := NB417_416.out
      have hcz36_0 : wc.cell? ⟨gb416, 0, none⟩ = some (.slice A0_0 l0_0.length c0_0) := (blk_cell BK416.out 0).trans rfl
      have hcz36_1 : wc.cell? ⟨gb416, 1, none⟩ = some (.slice A0_1 l0_1.length c0_1) := (blk_cell BK416.out 1).trans rfl
      have hcz36_2 : wc.cell? ⟨gb416, 2, none⟩ = some (.slice A0_2 l0_2.length c0_2) := (blk_cell BK416.out 2).trans rfl
      have hcz36_3 : wc.cell? ⟨gb416, 3, none⟩ = some (.slice A0_3 l0_3.length c0_3) := (blk_cell BK416.out 3).trans rfl
      have hfz36_0 := blk_frozen BK416.out 0
      have hfz36_1 := blk_frozen BK416.out 1
      have hfz36_2 := blk_frozen BK416.out 2
      have hfz36_3 := blk_frozen BK416.out 3
      have hcz37_0 : wc.cell? ⟨gb417, 0, none⟩ = some (.int .i64 a2_0) := (blk_cell BK417.out 0).trans rfl
      have hcz37_1 : wc.cell? ⟨gb417, 1, none⟩ = some (.int .i64 a2_1) := (blk_cell BK417.out 1).trans rfl
      have hcz37_2 : wc.cell? ⟨gb417, 2, none⟩ = some (.int .i64 a2_2) := (blk_cell BK417.out 2).trans rfl
      have hcz37_3 : wc.cell? ⟨gb417, 3, none⟩ = some (.slice A2_3 l2_3.length c2_3) := (blk_cell BK417.out 3).trans rfl
      have hfz37_0 := blk_frozen BK417.out 0
      have hfz37_1 := blk_frozen BK417.out 1
      have hfz37_2 := blk_frozen BK417.out 2
      have hfz37_3 := blk_frozen BK417.out 3
      go_wp2_with (first | ((with_reducible refine gate_callee (f := 10) rfl ?_); refine goesL_ (some 28) rfl rfl Tryd.func10 (by kernel_rfl) rfl #[.agg #[.slice A0_0 l0_0.length c0_0, .slice A0_1 l0_1.length c0_1, .slice A0_2 l0_2.length c0_2, .slice A0_3 l0_3.length c0_3], .int .i64 a1, .agg #[.int .i64 a2_0, .int .i64 a2_1, .int .i64 a2_2], .slice A2_3 l2_3.length c2_3] rfl (by (try simp only [List.map_toArray, List.map_cons, List.map_nil]); first | done | rfl | (simp only [List.length_drop, List.length_take]; rfl)) ?_; (with_reducible refine (stack_Step.calls kj3 _ _ l0_0 _ _ l0_1 _ _ l0_2 _ _ l0_3 a1 a2_0 a2_1 a2_2 _ _ l2_3 t420 t423 _ ?side1 ?side2 ?side3 ?side4 ?side5 ?side6 ?side7 ?side8 ?side9 ?side10 A19.out (LaidAll.below HL_.out (by repeat (first | (with_reducible first | exact HB.out | apply below_alloc | apply pw_below_drewN | apply below_drew1 | refine below_set ?_ GE416.out | refine below_set ?_ GE417.out) | exact HB.out)))).mono ?_); (case side1 => repeat (first | exact (Kd.C_below HR0_0.out HB.out) | (with_reducible refine Kd.C_alloc ?_ _) | (with_reducible refine Kd.C_drewN ?_ _) | (with_reducible refine Kd.C_drew ?_))); (case side2 => exact HC0_0.out); (case side3 => repeat (first | exact (Kd.C_below HR0_1.out HB.out) | (with_reducible refine Kd.C_alloc ?_ _) | (with_reducible refine Kd.C_drewN ?_ _) | (with_reducible refine Kd.C_drew ?_))); (case side4 => exact HC0_1.out); (case side5 => repeat (first | exact (Kd.C_below HR0_2.out HB.out) | (with_reducible refine Kd.C_alloc ?_ _) | (with_reducible refine Kd.C_drewN ?_ _) | (with_reducible refine Kd.C_drew ?_))); (case side6 => exact HC0_2.out); (case side7 => repeat (first | exact (Kd.C_below HR0_3.out HB.out) | (with_reducible refine Kd.C_alloc ?_ _) | (with_reducible refine Kd.C_drewN ?_ _) | (with_reducible refine Kd.C_drew ?_))); (case side8 => exact HC0_3.out); (case side9 => repeat (first | exact (Kd.C_below HR2_3.out HB.out) | (with_reducible refine Kd.C_alloc ?_ _) | (with_reducible refine Kd.C_drewN ?_ _) | (with_reducible refine Kd.C_drew ?_))); (case side10 => exact HC2_3.out); rintro e w38 ⟨v421, rfl, ho0, hb⟩; refine ⟨_, rfl, ?_⟩; have n0_ := Aside0.mk (Kd.R_lower ho0 (below_size (by repeat (first | (with_reducible first | exact HB.out | apply below_alloc | apply pw_below_drewN | apply below_drew1 | refine below_set ?_ GE416.out | refine below_set ?_ GE417.out) | exact HB.out)))); have n1_ := Aside0.mk (blk_below (g := gb416) (o := .cells #[.slice A0_0 l0_0.length c0_0, .slice A0_1 l0_1.length c0_1, .slice A0_2 l0_2.length c0_2, .slice A0_3 l0_3.length c0_3] 27 (0, 0)) (by (with_reducible repeat (first | refine blk_drewN ?_ _ | refine blk_drew ?_ | refine blk_alloc ?_ _)); exact BK416.out) hb); have n2_ := Aside0.mk (blk_below (g := gb417) (o := .cells #[.int .i64 a2_0, .int .i64 a2_1, .int .i64 a2_2, .slice A2_3 l2_3.length c2_3] 46 (0, 0)) (by (with_reducible repeat (first | refine blk_drewN ?_ _ | refine blk_drew ?_ | refine blk_alloc ?_ _)); exact BK417.out) hb); have n3_ := Aside0.mk (below_step (by repeat (first | (with_reducible first | exact HB.out | apply below_alloc | apply pw_below_drewN | apply below_drew1 | refine below_set ?_ GE416.out | refine below_set ?_ GE417.out) | exact HB.out)) hb); clear BK416; clear BK417; clear HB; have HO422 := n0_; have BK416 := n1_; have BK417 := n2_; have HB := n3_; clear n0_ n1_ n2_ n3_; (try clear hb); (try clear hb2); (try clear hk); (try clear hi); (try clear ho0); have hcz39_0 : w38.cell? ⟨gb416, 0, none⟩ = some (.slice A0_0 l0_0.length c0_0) := (blk_cell BK416.out 0).trans rfl; have hcz39_1 : w38.cell? ⟨gb416, 1, none⟩ = some (.slice A0_1 l0_1.length c0_1) := (blk_cell BK416.out 1).trans rfl; have hcz39_2 : w38.cell? ⟨gb416, 2, none⟩ = some (.slice A0_2 l0_2.length c0_2) := (blk_cell BK416.out 2).trans rfl; have hcz39_3 : w38.cell? ⟨gb416, 3, none⟩ = some (.slice A0_3 l0_3.length c0_3) := (blk_cell BK416.out 3).trans rfl; have hfz39_0 := blk_frozen BK416.out 0; have hfz39_1 := blk_frozen BK416.out 1; have hfz39_2 := blk_frozen BK416.out 2; have hfz39_3 := blk_frozen BK416.out 3; have hcz40_0 : w38.cell? ⟨gb417, 0, none⟩ = some (.int .i64 a2_0) := (blk_cell BK417.out 0).trans rfl; have hcz40_1 : w38.cell? ⟨gb417, 1, none⟩ = some (.int .i64 a2_1) := (blk_cell BK417.out 1).trans rfl; have hcz40_2 : w38.cell? ⟨gb417, 2, none⟩ = some (.int .i64 a2_2) := (blk_cell BK417.out 2).trans rfl; have hcz40_3 : w38.cell? ⟨gb417, 3, none⟩ = some (.slice A2_3 l2_3.length c2_3) := (blk_cell BK417.out 3).trans rfl; have hfz40_0 := blk_frozen BK417.out 0; have hfz40_1 := blk_frozen BK417.out 1; have hfz40_2 := blk_frozen BK417.out 2; have hfz40_3 := blk_frozen BK417.out 3) | ((with_reducible refine gate_callee (f := 11) rfl ?_); refine goesL_ (some 38) rfl rfl Tryd.func11 (by kernel_rfl) rfl #[.agg #[.slice A0_0 l0_0.length c0_0, .slice A0_1 l0_1.length c0_1, .slice A0_2 l0_2.length c0_2, .slice A0_3 l0_3.length c0_3], .int .i64 a1, .agg #[.int .i64 a2_0, .int .i64 a2_1, .int .i64 a2_2], .slice A2_3 l2_3.length c2_3] rfl (by (try simp only [List.map_toArray, List.map_cons, List.map_nil]); first | done | rfl | (simp only [List.length_drop, List.length_take]; rfl)) ?_; (with_reducible refine (ladderbackref19_Step.calls kj3 _ _ l0_0 _ _ l0_1 _ _ l0_2 _ _ l0_3 a1 a2_0 a2_1 a2_2 _ _ l2_3 t424 t427 _ ?side1 ?side2 ?side3 ?side4 ?side5 ?side6 ?side7 ?side8 ?side9 ?side10 A20.out).mono ?_); (case side1 => repeat (first | exact (Kd.C_below HR0_0.out HB.out) | (with_reducible refine Kd.C_alloc ?_ _) | (with_reducible refine Kd.C_drewN ?_ _) | (with_reducible refine Kd.C_drew ?_))); (case side2 => exact HC0_0.out); (case side3 => repeat (first | exact (Kd.C_below HR0_1.out HB.out) | (with_reducible refine Kd.C_alloc ?_ _) | (with_reducible refine Kd.C_drewN ?_ _) | (with_reducible refine Kd.C_drew ?_))); (case side4 => exact HC0_1.out); (case side5 => repeat (first | exact (Kd.C_below HR0_2.out HB.out) | (with_reducible refine Kd.C_alloc ?_ _) | (with_reducible refine Kd.C_drewN ?_ _) | (with_reducible refine Kd.C_drew ?_))); (case side6 => exact HC0_2.out); (case side7 => repeat (first | exact (Kd.C_below HR0_3.out HB.out) | (with_reducible refine Kd.C_alloc ?_ _) | (with_reducible refine Kd.C_drewN ?_ _) | (with_reducible refine Kd.C_drew ?_))); (case side8 => exact HC0_3.out); (case side9 => repeat (first | exact (Kd.C_below HR2_3.out HB.out) | (with_reducible refine Kd.C_alloc ?_ _) | (with_reducible refine Kd.C_drewN ?_ _) | (with_reducible refine Kd.C_drew ?_))); (case side10 => exact HC2_3.out); rintro e w41 ⟨v425, rfl, ho0, hb⟩; refine ⟨_, rfl, ?_⟩; have n0_ := Aside0.mk (Kd.R_elder' (by (with_reducible repeat (first | apply Kd.R_alloc | apply Kd.R_drewN | apply Kd.R_drew)); exact HO422.out) (Kd.R_base ho0) hb); have n1_ := Aside0.mk (Kd.R_lower (Kd.R_new' ho0 (Kd.R_lt (by (with_reducible repeat (first | apply Kd.R_alloc | apply Kd.R_drewN | apply Kd.R_drew)); exact HO422.out))) (below_size (by repeat (first | (with_reducible first | exact HB.out | apply below_alloc | apply pw_below_drewN | apply below_drew1 | refine below_set ?_ GE416.out | refine below_set ?_ GE417.out) | exact HB.out)))); have n2_ := Aside0.mk (blk_below (g := gb416) (o := .cells #[.slice A0_0 l0_0.length c0_0, .slice A0_1 l0_1.length c0_1, .slice A0_2 l0_2.length c0_2, .slice A0_3 l0_3.length c0_3] 27 (0, 0)) (by (with_reducible repeat (first | refine blk_drewN ?_ _ | refine blk_drew ?_ | refine blk_alloc ?_ _)); exact BK416.out) hb); have n3_ := Aside0.mk (blk_below (g := gb417) (o := .cells #[.int .i64 a2_0, .int .i64 a2_1, .int .i64 a2_2, .slice A2_3 l2_3.length c2_3] 46 (0, 0)) (by (with_reducible repeat (first | refine blk_drewN ?_ _ | refine blk_drew ?_ | refine blk_alloc ?_ _)); exact BK417.out) hb); have n4_ := Aside0.mk (below_step (by repeat (first | (with_reducible first | exact HB.out | apply below_alloc | apply pw_below_drewN | apply below_drew1 | refine below_set ?_ GE416.out | refine below_set ?_ GE417.out) | exact HB.out)) hb); clear HO422; clear BK416; clear BK417; clear HB; have HO422 := n0_; have HO426 := n1_; have BK416 := n2_; have BK417 := n3_; have HB := n4_; clear n0_ n1_ n2_ n3_ n4_; (try clear hb); (try clear hb2); (try clear hk); (try clear hi); (try clear ho0); obtain ⟨Ao42, co42, eo42⟩ := Kd.R_slice HO422.out; subst eo42; obtain ⟨Ao43, co43, eo43⟩ := Kd.R_slice HO426.out; subst eo43) | ((with_reducible refine gate_callee (f := 12) rfl ?_); refine goesL_ (some 43) rfl rfl Tryd.func12 (by kernel_rfl) rfl #[.slice Ao42 t420.length co42, .slice Ao43 t424.length co43] rfl (by (try simp only [List.map_toArray, List.map_cons, List.map_nil]); first | done | rfl | (simp only [List.length_drop, List.length_take]; rfl)) ?_; (with_reducible refine (ladderbackref15_Ints.calls kj3 _ _ t420 _ _ t424 true _ ?side1 ?side2 ?side3 ?side4 A21.out).mono ?_); (case side1 => repeat (first | exact (Kd.R_reads' HO422.out).2.2 | (with_reducible refine Kd.C_alloc ?_ _) | (with_reducible refine Kd.C_drewN ?_ _) | (with_reducible refine Kd.C_drew ?_))); (case side2 => exact (Kd.R_reads' HO422.out).2.1); (case side3 => repeat (first | exact (Kd.R_reads' HO426.out).2.2 | (with_reducible refine Kd.C_alloc ?_ _) | (with_reducible refine Kd.C_drewN ?_ _) | (with_reducible refine Kd.C_drew ?_))); (case side4 => exact (Kd.R_reads' HO426.out).2.1); rintro e w' ⟨rfl, ⟨nd, rfl⟩⟩; refine ⟨_, rfl, ?_⟩))
      go_ret
      exact ⟨by first | rfl | (simp [errW_none, errW_some] <;> rfl) | (simp [*, errW_none, errW_some] <;> rfl), by repeat (first | (with_reducible first | exact HB.out | apply below_alloc | apply pw_below_drewN | apply below_drew1 | refine below_set ?_ GE416.out | refine below_set ?_ GE417.out) | exact HB.out)⟩
    ·replace c22 := Bool.eq_false_iff.mpr c22
     subst c22
     have H1 : (some false) = some r := by rw [if_neg (show ¬ (false = true) by decide)] at H; exact H
     clear H
     have H := H1
     clear H1
     obtain rfl := Option.some.inj H
     have hnb44 := NB416_417.out
     have hnc44 := NB417_416.out
     have hcz45_0 : wc.cell? ⟨gb416, 0, none⟩ = some (.slice A0_0 l0_0.length c0_0) := (blk_cell BK416.out 0).trans rfl
     have hcz45_1 : wc.cell? ⟨gb416, 1, none⟩ = some (.slice A0_1 l0_1.length c0_1) := (blk_cell BK416.out 1).trans rfl
     have hcz45_2 : wc.cell? ⟨gb416, 2, none⟩ = some (.slice A0_2 l0_2.length c0_2) := (blk_cell BK416.out 2).trans rfl
     have hcz45_3 : wc.cell? ⟨gb416, 3, none⟩ = some (.slice A0_3 l0_3.length c0_3) := (blk_cell BK416.out 3).trans rfl
     have hfz45_0 := blk_frozen BK416.out 0
     have hfz45_1 := blk_frozen BK416.out 1
     have hfz45_2 := blk_frozen BK416.out 2
     have hfz45_3 := blk_frozen BK416.out 3
     have hcz46_0 : wc.cell? ⟨gb417, 0, none⟩ = some (.int .i64 a2_0) := (blk_cell BK417.out 0).trans rfl
     have hcz46_1 : wc.cell? ⟨gb417, 1, none⟩ = some (.int .i64 a2_1) := (blk_cell BK417.out 1).trans rfl
     have hcz46_2 : wc.cell? ⟨gb417, 2, none⟩ = some (.int .i64 a2_2) := (blk_cell BK417.out 2).trans rfl
     have hcz46_3 : wc.cell? ⟨gb417, 3, none⟩ = some (.slice A2_3 l2_3.length c2_3) := (blk_cell BK417.out 3).trans rfl
     have hfz46_0 := blk_frozen BK417.out 0
     have hfz46_1 := blk_frozen BK417.out 1
     have hfz46_2 := blk_frozen BK417.out 2
     have hfz46_3 := blk_frozen BK417.out 3
     go_wp2_with (first | ((with_reducible refine gate_callee (f := 10) rfl ?_); refine goesL_ (some 28) rfl rfl Tryd.func10 (by kernel_rfl) rfl #[.agg #[.slice A0_0 l0_0.length c0_0, .slice A0_1 l0_1.length c0_1, .slice A0_2 l0_2.length c0_2, .slice A0_3 l0_3.length c0_3], .int .i64 a1, .agg #[.int .i64 a2_0, .int .i64 a2_1, .int .i64 a2_2], .slice A2_3 l2_3.length c2_3] rfl (by (try simp only [List.map_toArray, List.map_cons, List.map_nil]); first | done | rfl | (simp only [List.length_drop, List.length_take]; rfl)) ?_; (with_reducible refine (stack_Step.calls kj3 _ _ l0_0 _ _ l0_1 _ _ l0_2 _ _ l0_3 a1 a2_0 a2_1 a2_2 _ _ l2_3 t420 t423 _ ?side1 ?side2 ?side3 ?side4 ?side5 ?side6 ?side7 ?side8 ?side9 ?side10 A19.out (LaidAll.below HL_.out (by repeat (first | (with_reducible first | exact HB.out | apply below_alloc | apply pw_below_drewN | apply below_drew1 | refine below_set ?_ GE416.out | refine below_set ?_ GE417.out) | exact HB.out)))).mono ?_); (case side1 => repeat (first | exact (Kd.C_below HR0_0.out HB.out) | (with_reducible refine Kd.C_alloc ?_ _) | (with_reducible refine Kd.C_drewN ?_ _) | (with_reducible refine Kd.C_drew ?_))); (case side2 => exact HC0_0.out); (case side3 => repeat (first | exact (Kd.C_below HR0_1.out HB.out) | (with_reducible refine Kd.C_alloc ?_ _) | (with_reducible refine Kd.C_drewN ?_ _) | (with_reducible refine Kd.C_drew ?_))); (case side4 => exact HC0_1.out); (case side5 => repeat (first | exact (Kd.C_below HR0_2.out HB.out) | (with_reducible refine Kd.C_alloc ?_ _) | (with_reducible refine Kd.C_drewN ?_ _) | (with_reducible refine Kd.C_drew ?_))); (case side6 => exact HC0_2.out); (case side7 => repeat (first | exact (Kd.C_below HR0_3.out HB.out) | (with_reducible refine Kd.C_alloc ?_ _) | (with_reducible refine Kd.C_drewN ?_ _) | (with_reducible refine Kd.C_drew ?_))); (case side8 => exact HC0_3.out); (case side9 => repeat (first | exact (Kd.C_below HR2_3.out HB.out) | (with_reducible refine Kd.C_alloc ?_ _) | (with_reducible refine Kd.C_drewN ?_ _) | (with_reducible refine Kd.C_drew ?_))); (case side10 => exact HC2_3.out); rintro e w47 ⟨v421, rfl, ho0, hb⟩; refine ⟨_, rfl, ?_⟩; have n0_ := Aside0.mk (Kd.R_lower ho0 (below_size (by repeat (first | (with_reducible first | exact HB.out | apply below_alloc | apply pw_below_drewN | apply below_drew1 | refine below_set ?_ GE416.out | refine below_set ?_ GE417.out) | exact HB.out)))); have n1_ := Aside0.mk (blk_below (g := gb416) (o := .cells #[.slice A0_0 l0_0.length c0_0, .slice A0_1 l0_1.length c0_1, .slice A0_2 l0_2.length c0_2, .slice A0_3 l0_3.length c0_3] 27 (0, 0)) (by (with_reducible repeat (first | refine blk_drewN ?_ _ | refine blk_drew ?_ | refine blk_alloc ?_ _)); exact BK416.out) hb); have n2_ := Aside0.mk (blk_below (g := gb417) (o := .cells #[.int .i64 a2_0, .int .i64 a2_1, .int .i64 a2_2, .slice A2_3 l2_3.length c2_3] 46 (0, 0)) (by (with_reducible repeat (first | refine blk_drewN ?_ _ | refine blk_drew ?_ | refine blk_alloc ?_ _)); exact BK417.out) hb); have n3_ := Aside0.mk (below_step (by repeat (first | (with_reducible first | exact HB.out | apply below_alloc | apply pw_below_drewN | apply below_drew1 | refine below_set ?_ GE416.out | refine below_set ?_ GE417.out) | exact HB.out)) hb); clear BK416; clear BK417; clear HB; have HO422 := n0_; have BK416 := n1_; have BK417 := n2_; have HB := n3_; clear n0_ n1_ n2_ n3_; (try clear hb); (try clear hb2); (try clear hk); (try clear hi); (try clear ho0); have hcz48_0 : w47.cell? ⟨gb416, 0, none⟩ = some (.slice A0_0 l0_0.length c0_0) := (blk_cell BK416.out 0).trans rfl; have hcz48_1 : w47.cell? ⟨gb416, 1, none⟩ = some (.slice A0_1 l0_1.length c0_1) := (blk_cell BK416.out 1).trans rfl; have hcz48_2 : w47.cell? ⟨gb416, 2, none⟩ = some (.slice A0_2 l0_2.length c0_2) := (blk_cell BK416.out 2).trans rfl; have hcz48_3 : w47.cell? ⟨gb416, 3, none⟩ = some (.slice A0_3 l0_3.length c0_3) := (blk_cell BK416.out 3).trans rfl; have hfz48_0 := blk_frozen BK416.out 0; have hfz48_1 := blk_frozen BK416.out 1; have hfz48_2 := blk_frozen BK416.out 2; have hfz48_3 := blk_frozen BK416.out 3; have hcz49_0 : w47.cell? ⟨gb417, 0, none⟩ = some (.int .i64 a2_0) := (blk_cell BK417.out 0).trans rfl; have hcz49_1 : w47.cell? ⟨gb417, 1, none⟩ = some (.int .i64 a2_1) := (blk_cell BK417.out 1).trans rfl; have hcz49_2 : w47.cell? ⟨gb417, 2, none⟩ = some (.int .i64 a2_2) := (blk_cell BK417.out 2).trans rfl; have hcz49_3 : w47.cell? ⟨gb417, 3, none⟩ = some (.slice A2_3 l2_3.length c2_3) := (blk_cell BK417.out 3).trans rfl; have hfz49_0 := blk_frozen BK417.out 0; have hfz49_1 := blk_frozen BK417.out 1; have hfz49_2 := blk_frozen BK417.out 2; have hfz49_3 := blk_frozen BK417.out 3) | ((with_reducible refine gate_callee (f := 11) rfl ?_); refine goesL_ (some 38) rfl rfl Tryd.func11 (by kernel_rfl) rfl #[.agg #[.slice A0_0 l0_0.length c0_0, .slice A0_1 l0_1.length c0_1, .slice A0_2 l0_2.length c0_2, .slice A0_3 l0_3.length c0_3], .int .i64 a1, .agg #[.int .i64 a2_0, .int .i64 a2_1, .int .i64 a2_2], .slice A2_3 l2_3.length c2_3] rfl (by (try simp only [List.map_toArray, List.map_cons, List.map_nil]); first | done | rfl | (simp only [List.length_drop, List.length_take]; rfl)) ?_; (with_reducible refine (ladderbackref19_Step.calls kj3 _ _ l0_0 _ _ l0_1 _ _ l0_2 _ _ l0_3 a1 a2_0 a2_1 a2_2 _ _ l2_3 t424 t427 _ ?side1 ?side2 ?side3 ?side4 ?side5 ?side6 ?side7 ?side8 ?side9 ?side10 A20.out).mono ?_); (case side1 => repeat (first | exact (Kd.C_below HR0_0.out HB.out) | (with_reducible refine Kd.C_alloc ?_ _) | (with_reducible refine Kd.C_drewN ?_ _) | (with_reducible refine Kd.C_drew ?_))); (case side2 => exact HC0_0.out); (case side3 => repeat (first | exact (Kd.C_below HR0_1.out HB.out) | (with_reducible refine Kd.C_alloc ?_ _) | (with_reducible refine Kd.C_drewN ?_ _) | (with_reducible refine Kd.C_drew ?_))); (case side4 => exact HC0_1.out); (case side5 => repeat (first | exact (Kd.C_below HR0_2.out HB.out) | (with_reducible refine Kd.C_alloc ?_ _) | (with_reducible refine Kd.C_drewN ?_ _) | (with_reducible refine Kd.C_drew ?_))); (case side6 => exact HC0_2.out); (case side7 => repeat (first | exact (Kd.C_below HR0_3.out HB.out) | (with_reducible refine Kd.C_alloc ?_ _) | (with_reducible refine Kd.C_drewN ?_ _) | (with_reducible refine Kd.C_drew ?_))); (case side8 => exact HC0_3.out); (case side9 => repeat (first | exact (Kd.C_below HR2_3.out HB.out) | (with_reducible refine Kd.C_alloc ?_ _) | (with_reducible refine Kd.C_drewN ?_ _) | (with_reducible refine Kd.C_drew ?_))); (case side10 => exact HC2_3.out); rintro e w50 ⟨v425, rfl, ho0, hb⟩; refine ⟨_, rfl, ?_⟩; have n0_ := Aside0.mk (Kd.R_elder' (by (with_reducible repeat (first | apply Kd.R_alloc | apply Kd.R_drewN | apply Kd.R_drew)); exact HO422.out) (Kd.R_base ho0) hb); have n1_ := Aside0.mk (Kd.R_lower (Kd.R_new' ho0 (Kd.R_lt (by (with_reducible repeat (first | apply Kd.R_alloc | apply Kd.R_drewN | apply Kd.R_drew)); exact HO422.out))) (below_size (by repeat (first | (with_reducible first | exact HB.out | apply below_alloc | apply pw_below_drewN | apply below_drew1 | refine below_set ?_ GE416.out | refine below_set ?_ GE417.out) | exact HB.out)))); have n2_ := Aside0.mk (blk_below (g := gb416) (o := .cells #[.slice A0_0 l0_0.length c0_0, .slice A0_1 l0_1.length c0_1, .slice A0_2 l0_2.length c0_2, .slice A0_3 l0_3.length c0_3] 27 (0, 0)) (by (with_reducible repeat (first | refine blk_drewN ?_ _ | refine blk_drew ?_ | refine blk_alloc ?_ _)); exact BK416.out) hb); have n3_ := Aside0.mk (blk_below (g := gb417) (o := .cells #[.int .i64 a2_0, .int .i64 a2_1, .int .i64 a2_2, .slice A2_3 l2_3.length c2_3] 46 (0, 0)) (by (with_reducible repeat (first | refine blk_drewN ?_ _ | refine blk_drew ?_ | refine blk_alloc ?_ _)); exact BK417.out) hb); have n4_ := Aside0.mk (below_step (by repeat (first | (with_reducible first | exact HB.out | apply below_alloc | apply pw_below_drewN | apply below_drew1 | refine below_set ?_ GE416.out | refine below_set ?_ GE417.out) | exact HB.out)) hb); clear HO422; clear BK416; clear BK417; clear HB; have HO422 := n0_; have HO426 := n1_; have BK416 := n2_; have BK417 := n3_; have HB := n4_; clear n0_ n1_ n2_ n3_ n4_; (try clear hb); (try clear hb2); (try clear hk); (try clear hi); (try clear ho0); obtain ⟨Ao51, co51, eo51⟩ := Kd.R_slice HO422.out; subst eo51; obtain ⟨Ao52, co52, eo52⟩ := Kd.R_slice HO426.out; subst eo52) | ((with_reducible refine gate_callee (f := 12) rfl ?_); refine goesL_ (some 43) rfl rfl Tryd.func12 (by kernel_rfl) rfl #[.slice Ao51 t420.length co51, .slice Ao52 t424.length co52] rfl (by (try simp only [List.map_toArray, List.map_cons, List.map_nil]); first | done | rfl | (simp only [List.length_drop, List.length_take]; rfl)) ?_; (with_reducible refine (ladderbackref15_Ints.calls kj3 _ _ t420 _ _ t424 false _ ?side1 ?side2 ?side3 ?side4 A21.out).mono ?_); (case side1 => repeat (first | exact (Kd.R_reads' HO422.out).2.2 | (with_reducible refine Kd.C_alloc ?_ _) | (with_reducible refine Kd.C_drewN ?_ _) | (with_reducible refine Kd.C_drew ?_))); (case side2 => exact (Kd.R_reads' HO422.out).2.1); (case side3 => repeat (first | exact (Kd.R_reads' HO426.out).2.2 | (with_reducible refine Kd.C_alloc ?_ _) | (with_reducible refine Kd.C_drewN ?_ _) | (with_reducible refine Kd.C_drew ?_))); (case side4 => exact (Kd.R_reads' HO426.out).2.1); rintro e w' ⟨rfl, ⟨nd, rfl⟩⟩; refine ⟨_, rfl, ?_⟩))
     go_ret
     exact ⟨by first | rfl | (simp [errW_none, errW_some] <;> rfl) | (simp [*, errW_none, errW_some] <;> rfl), by repeat (first | (with_reducible first | exact HB.out | apply below_alloc | apply pw_below_drewN | apply below_drew1 | refine below_set ?_ GE416.out | refine below_set ?_ GE417.out) | exact HB.out)⟩


end Go.Proofs.YthdlocigijiobaaDoor.PSk
end

section
/- One instruction's effect on a stack, plainly: the document's answer is the program's. -/
namespace Go.Proofs.YthdlocigijiobaaDoor.RPure
open Go.RowKit Go.Proofs.YthdlocigijiobaaDoor.PSk Go.Proofs.YthdlocigijiobaaDoor.Given Go.Proofs.YthdlocigijiobaaDoorW.PrintWords Go.Proofs.YthdlocigijiobaaDoorW.PrintLast Go.Proofs.YthdlocigijiobaaDoorW.PrintMore
set_option linter.unusedVariables false
set_option linter.unusedSimpArgs false
theorem rstep_is (C : LC) (V : LV) (B : LB) (U : LU) (hU : Ok U) (u x y z : Int) (st : List Int) (hst : st.length ≤ 1000) (k : Nat) :
    ladderbackref19_Step.f k C V B U u x y z st = some (stepR C V B U u x y z st) := by
  unfold ladderbackref19_Step.f
  rw [if_pos ⟨ok_to hU, hst⟩]
theorem StackSteps (C : LC) (V : LV) (B : LB) (U : LU) (u x y z : Int) (st : List Int) : ladderbacklaw19_StackSteps.f 9000 C V B U u x y z st = some true := by
  obtain ⟨b, e, f⟩ := few_is C V B U
  unfold ladderbacklaw19_StackSteps.f
  rw [e 9000 (by omega), Option.bind_some]
  have jt : ladderbacklaw19_StackSteps.j0 9000 u true C V B U x y z st = some true := by
    rw [ladderbacklaw19_StackSteps.j0, if_pos rfl, awake_at 8999 (by omega)]; rfl
  cases b with
  | false => rw [if_neg (by decide)]; exact jt
  | true =>
    obtain ⟨hU, hn⟩ := f rfl
    rw [if_pos rfl]
    by_cases h1 : (st.length : Int) > 60
    · rw [decide_eq_true h1]; exact jt
    have hs : stack_Step.f 8999 C V B U u x y z st = some (stepR C V B U u x y z st) := (step_is C V B U hU u x y z st (by omega) 8999 (by omega)).trans rfl
    have hl : (stepR C V B U u x y z st).1.length ≤ 200 := by
      unfold stepR
      by_cases h : oneF C V B U u x y z = 0
      · rw [if_pos h]
        obtain ⟨t, lv, e, nt, nl, h1, h2⟩ := eff_some hU h
        rw [e]
        simp only
        unfold stepF
        (repeat' split) <;> simp only [List.length_nil, List.length_append, List.length_take] <;> omega
      · rw [if_neg h]; simp
    rw [decide_eq_false h1, ladderbacklaw19_StackSteps.j0, if_neg (by decide), hs, rstep_is C V B U hU u x y z st (by omega) 8999]
    simp only [Option.bind_some]
    rw [ints_is _ _ rfl (by omega) 8999 (by omega), Option.bind_some, if_pos rfl, if_pos trivial, awake_at 8999 (by omega)]
    rfl
end Go.Proofs.YthdlocigijiobaaDoor.RPure
end

section
/- What a package's variable that is laid as plain data has in its cells; numbers, truths, texts, structs and arrays alone. -/
namespace Go.Proofs.YthdlocigijiobaaDoor.Flat
open Go Go.Lib Go.RowKit
mutual
/-- The cells that a datum of numbers, bools, texts, structs and arrays says. -/
def flatW {H : Type} : DataW H → Option (List Value)
  | .lit (.int k n) => some [.int k n]
  | .lit (.bool b) => some [.bool b]
  | .lit (.string s) => some [.string ⟨s.toArray⟩]
  | .agg ps => flatWs ps
  | _ => none
def flatWs {H : Type} : List (DataW H) → Option (List Value)
  | [] => some []
  | d :: r => (flatW d).bind fun a => (flatWs r).map (a ++ ·)
end
/-- Do a type's parts lie one behind the other, without a gap? -/
def tiles (P : Program) : Nat → TypeId → Bool
  | 0, _ => false
  | n + 1, t => match P.underlying t with
    | some .bool | some (.int _) | some .string => true
    | some (.struct fs) => fs.toList.foldl (fun o f => o.bind fun k => if f.offset = k ∧ tiles P n f.type = true then some (k + P.cellsOf f.type) else none) (some 0) == some (P.cellsOf t)
    | some (.array m e) => tiles P n e && P.cellsOf t == m * P.cellsOf e
    | _ => false
theorem foldl_none {α β : Type} (f : Option β → α → Option β) (h : ∀ a, f none a = none) : ∀ l : List α, l.foldl f none = none
  | [] => rfl
  | a :: l => by rw [List.foldl_cons, h, foldl_none f h l]
theorem flat_cells {H : Type} {enc : TypeId × Value → H} {P : Program} {w : World} {base : Nat} {sp : Nat → Bool} {held : Bool} :
    ∀ (n fuel : Nat) (t : TypeId) (cs : List Value) (d : DataW H) (ps : List MemPlace) (vs : List Value), tiles P n t = true → DataW.trod enc P w base sp held fuel t cs = some (d, ps) → flatW d = some vs → cs = vs := by
  intro n
  induction n with
  | zero => intro fuel t cs d ps vs ht; simp [tiles] at ht
  | succ n ih =>
    intro fuel t cs d ps vs ht h hf
    cases fuel with
    | zero => simp [DataW.trod] at h
    | succ fuel =>
      cases hu : P.underlying t with
      | none => simp [tiles, hu] at ht
      | some u =>
        cases u with
        | bool =>
          unfold DataW.trod at h; rw [hu] at h
          split at h <;> simp_all
          obtain ⟨rfl, _⟩ := h
          simp [flatW] at hf; exact hf
        | int k =>
          unfold DataW.trod at h; rw [hu] at h
          split at h <;> simp_all
          obtain ⟨⟨rfl, _⟩, rfl, _⟩ := h
          simp [flatW] at hf; exact hf
        | string =>
          unfold DataW.trod at h; rw [hu] at h
          split at h <;> simp_all
          obtain ⟨_, rfl, _⟩ := h
          simp [flatW] at hf; exact hf
        | struct fs =>
          simp only [tiles, hu, beq_iff_eq] at ht
          unfold DataW.trod at h; rw [hu] at h
          simp only at h
          split at h
          · rename_i hl
            obtain ⟨xs, hm, hx⟩ := Option.map_eq_some_iff.1 h
            simp only [Prod.mk.injEq] at hx
            obtain ⟨rfl, _⟩ := hx
            have key : ∀ (fs : List Field) (k : Nat) (xs : List (DataW H × List MemPlace)) (vs : List Value), k ≤ cs.length → fs.mapM (fun f => DataW.trod enc P w base sp held fuel f.type ((cs.drop f.offset).take (P.cellsOf f.type))) = some xs →
                fs.foldl (fun o f => o.bind fun k => if f.offset = k ∧ tiles P n f.type = true then some (k + P.cellsOf f.type) else none) (some k) = some cs.length → flatWs (xs.map (·.1)) = some vs → cs.drop k = vs := by
              intro fs
              induction fs with
              | nil =>
                intro k xs vs hk hm ht hf
                simp at hm; subst hm
                simp [flatWs] at hf; subst hf
                simp at ht; simp; omega
              | cons f fs ihf =>
                intro k xs vs hk hm ht hf
                simp only [List.mapM_cons, Option.bind_eq_bind, Option.bind_eq_some_iff, Option.pure_def, Option.some.injEq] at hm
                obtain ⟨b, hb, r, hr, rfl⟩ := hm
                simp only [List.foldl_cons, Option.bind_some] at ht
                split at ht
                · rename_i hc
                  obtain ⟨hc1, hc2⟩ := hc
                  simp only [List.map_cons, flatWs, Option.bind_eq_some_iff, Option.map_eq_some_iff] at hf
                  obtain ⟨a, ha, s, hs, rfl⟩ := hf
                  have e1 := ih _ _ _ b.1 b.2 a hc2 (by rw [hb]) ha
                  rw [hc1] at e1
                  have hle : k + P.cellsOf f.type ≤ cs.length := by
                    have mono : ∀ (l : List Field) (k m : Nat), l.foldl (fun o f => o.bind fun k => if f.offset = k ∧ tiles P n f.type = true then some (k + P.cellsOf f.type) else none) (some k) = some m → k ≤ m := by
                      intro l
                      induction l with
                      | nil => intro k m h; simp at h; omega
                      | cons g l ihl =>
                        intro k m h
                        simp only [List.foldl_cons, Option.bind_some] at h
                        split at h
                        · have := ihl _ _ h; omega
                        · rw [foldl_none _ (fun _ => rfl)] at h; cases h
                    exact mono _ _ _ ht
                  have e2 := ihf _ _ _ hle hr ht hs
                  rw [← e1, ← e2, ← List.drop_drop, List.take_append_drop]
                · rw [foldl_none _ (fun _ => rfl)] at ht; cases ht
            have := key fs.toList 0 xs vs (Nat.zero_le _) hm (by rw [ht, hl]) (by simpa [flatW] using hf)
            simpa using this
          · cases h
        | array m e =>
          simp only [tiles, hu, Bool.and_eq_true, beq_iff_eq] at ht
          obtain ⟨ht1, ht2⟩ := ht
          unfold DataW.trod at h; rw [hu] at h
          simp only at h
          split at h
          · rename_i hl
            obtain ⟨xs, hm, hx⟩ := Option.map_eq_some_iff.1 h
            simp only [Prod.mk.injEq] at hx
            obtain ⟨rfl, _⟩ := hx
            have key : ∀ (j k : Nat) (xs : List (DataW H × List MemPlace)) (vs : List Value), k + j = m → (List.range' k j).mapM (fun i => DataW.trod enc P w base sp held fuel e ((cs.drop (i * P.cellsOf e)).take (P.cellsOf e))) = some xs → flatWs (xs.map (·.1)) = some vs → cs.drop (k * P.cellsOf e) = vs := by
              intro j
              induction j with
              | zero =>
                intro k xs vs hk hm hf
                simp at hm; subst hm
                simp [flatWs] at hf; subst hf
                have hkm : k = m := by omega
                subst hkm
                rw [← ht2, ← hl]; simp
              | succ j ihj =>
                intro k xs vs hk hm hf
                simp only [List.range'_succ, List.mapM_cons, Option.bind_eq_bind, Option.bind_eq_some_iff, Option.pure_def, Option.some.injEq] at hm
                obtain ⟨b, hb, r, hr, rfl⟩ := hm
                simp only [List.map_cons, flatWs, Option.bind_eq_some_iff, Option.map_eq_some_iff] at hf
                obtain ⟨a, ha, s, hs, rfl⟩ := hf
                have e1 := ih _ _ _ b.1 b.2 a ht1 (by rw [hb]) ha
                have e2 := ihj (k + 1) _ _ (by omega) hr hs
                rw [← e1, ← e2, Nat.add_mul, Nat.one_mul, ← List.drop_drop, List.take_append_drop]
            have := key m 0 xs vs (by omega) (by rw [← List.range_eq_range']; exact hm) (by simpa [flatW] using hf)
            simpa using this
          · cases h
        | _ => simp [tiles, hu] at ht
/-- The variable holds these cells. -/
def VarIs (P : Program) (w : World) (name : String) (vs : List Value) : Prop := w.var? P name = some vs.toArray
theorem varIs_of_laid {P : Program} {W : World} {name : String} {D : DataW Unit} {vs : List Value} {g : Nat} {t : TypeId} (n : Nat)
    (hg : P.globalNamed name = some g) (hty : (P.globals[g]?).map (·.type) = some t) (ht : tiles P n t = true) (hf : flatW D = some vs) :
    ∀ {l : List (String × DataW Unit)} {ps : List MemPlace}, (name, D) ∈ l → DataW.LaidVars P W l ps → VarIs P W name vs := by
  intro l
  induction l with
  | nil => intro ps h; cases h
  | cons x l ih =>
    intro ps hm h
    obtain ⟨nm, E⟩ := x
    obtain ⟨g', t', cs, fuel, p, q, hg', ht', hvar, hd, hr, _⟩ := h
    rcases List.mem_cons.1 hm with h | h
    · injection h with h1 h2
      subst h1 h2
      obtain rfl := Option.some.inj (hg.symm.trans hg')
      obtain rfl := Option.some.inj (hty.symm.trans ht')
      unfold VarIs
      rw [hvar, ← flat_cells n _ _ _ _ _ _ ht hd hf]
    · exact ih h hr
theorem varIs {P : Program} {W : World} {name : String} {D : DataW Unit} {vs : List Value} {g : Nat} {t : TypeId} {l : List (String × DataW Unit)} (n : Nat)
    (h : laidMetH P l W) (hp : (l.filter fun x => x.2.handleName?.isSome) = []) (hm : (name, D) ∈ l)
    (hg : P.globalNamed name = some g) (hty : (P.globals[g]?).map (·.type) = some t) (ht : tiles P n t = true) (hf : flatW D = some vs) : VarIs P W name vs := by
  unfold laidMetH at h
  rw [hp] at h
  obtain ⟨ps, h, _⟩ := h
  exact varIs_of_laid n hg hty ht hf hm h
theorem VarIs.cell {P : Program} {W : World} {name : String} {vs : List Value} {g : Nat} (h : VarIs P W name vs) (hg : P.globalNamed name = some g) (i : Nat) : W.cell? ⟨g, i, none⟩ = vs[i]? := by
  rw [World.var?_cell hg h i]; simp
end Go.Proofs.YthdlocigijiobaaDoor.Flat
end

section
/- StackSteps over programs that are read as data; the tables as the program lays them. -/
namespace Go.Proofs.YthdlocigijiobaaDoor
open Go Go.RowKit Go.Proofs.YthdlocigijiobaaDoorW.PrintWords Go.Proofs.YthdlocigijiobaaDoor.PSk Go.Proofs.YthdlocigijiobaaDoor.Given
set_option linter.unusedVariables false
namespace SkRow
theorem laidOps_of {l : List (String × DataW Unit)} {w : World} (h : laidMetH Tryd.prog l w) (hp : (l.filter fun x => x.2.handleName?.isSome) = []) (hm : ("ladderback/op.rows", Rows.laid_ladderback_op_rows) ∈ l) : LaidOps w := by
  have hv := Flat.varIs (name := "ladderback/op.rows") (D := Rows.laid_ladderback_op_rows) (vs := opsV) (g := 0) (t := 73) 6 h hp hm (by kernel_rfl) (by kernel_rfl) (by kernel_rfl) (by rfl)
  intro i v hi
  rw [hv.cell (by kernel_rfl), hi]
theorem laidGoes_of {l : List (String × DataW Unit)} {w : World} (h : laidMetH Tryd.prog l w) (hp : (l.filter fun x => x.2.handleName?.isSome) = []) (hm : ("ladderback/alu.goes", Rows.laid_ladderback_alu_goes) ∈ l) : LaidGoes w := by
  have hv := Flat.varIs (name := "ladderback/alu.goes") (D := Rows.laid_ladderback_alu_goes) (vs := nums .i64 goesV) (g := 1) (t := 74) 6 h hp hm (by kernel_rfl) (by kernel_rfl) (by kernel_rfl) (by rfl)
  intro i v hi
  rw [hv.cell (by kernel_rfl), hi]
set_option maxRecDepth 100000 in
theorem laidBlk_of {l : List (String × DataW Unit)} {w : World} (h : laidMetH Tryd.prog l w) (hp : (l.filter fun x => x.2.handleName?.isSome) = []) (hm : ("ladderback/block.rows", Rows.laid_ladderback_block_rows) ∈ l) : LaidBlk w := by
  have hv := Flat.varIs (name := "ladderback/block.rows") (D := Rows.laid_ladderback_block_rows) (vs := blkV) (g := 2) (t := 83) 8 h hp hm (by kernel_rfl) (by kernel_rfl) (by kernel_rfl) (by rfl)
  intro i v hi
  rw [hv.cell (by kernel_rfl), hi]
theorem laid_of {l : List (String × DataW Unit)} {w : World} (h : laidMetH Tryd.prog l w) (hp : (l.filter fun x => x.2.handleName?.isSome) = []) (h1 : ("ladderback/op.rows", Rows.laid_ladderback_op_rows) ∈ l) (h2 : ("ladderback/alu.goes", Rows.laid_ladderback_alu_goes) ∈ l) (h3 : ("ladderback/block.rows", Rows.laid_ladderback_block_rows) ∈ l) : LaidAll w :=
  ⟨laidOps_of h hp h1, laidGoes_of h hp h2, laidBlk_of h hp h3⟩
theorem rd_int : Bridge.Rdga Tryd.prog 3 (Kd.int .i64) (fun a => (Lit.int .i64 a).wf = true) := Bridge.Rdg.int Tryd.underlying3 (by kernel_rfl)
theorem rd_ints : Bridge.Rdga Tryd.prog 40 (Kd.slice 3 (Kd.int .i64)) (fun l => ∀ a ∈ l, (Lit.int .i64 a).wf = true) := Bridge.Rdg.slicea Tryd.underlying40 (by kernel_rfl) rd_int
theorem rd_str : Bridge.Rdga Tryd.prog 9 Kd.string (fun s => s.size ≤ 9223372036854775807) := Bridge.Rdg.string Tryd.underlying9 (by kernel_rfl)
theorem rd_instr : Bridge.Rdga Tryd.prog 29 k29 (fun _ => True) := fun m =>
  Bridge.Rdg.imp (Bridge.Rdg.iso (fun x : S29 => (x.f0, x.f1, x.f2)) (fun p => ⟨p.1, p.2.1, p.2.2⟩) (fun _ => rfl)
    (Bridge.Rdg.structa Tryd.underlying29 (by kernel_rfl) (fun m => Bridge.RdgF.cons rfl (rd_int m) (Bridge.RdgF.cons rfl (rd_int m) (Bridge.RdgF.one rfl (rd_int m)))) m)) (fun _ _ => trivial)
theorem rd_const : Bridge.Rdga Tryd.prog 35 k35 (fun _ => True) := fun m =>
  Bridge.Rdg.imp (Bridge.Rdg.iso (fun x : S35 => (x.f0, x.f1)) (fun p => ⟨p.1, p.2⟩) (fun _ => rfl)
    (Bridge.Rdg.structa Tryd.underlying35 (by kernel_rfl) (fun m => Bridge.RdgF.cons rfl (rd_int m) (Bridge.RdgF.one rfl (rd_int m))) m)) (fun _ _ => trivial)
theorem rd_var : Bridge.Rdga Tryd.prog 37 k37 (fun _ => True) := fun m =>
  Bridge.Rdg.imp (Bridge.Rdg.iso (fun x : S37 => (x.f0, x.f1, x.f2, x.f3, x.f4)) (fun p => ⟨p.1, p.2.1, p.2.2.1, p.2.2.2.1, p.2.2.2.2⟩) (fun _ => rfl)
    (Bridge.Rdg.structa Tryd.underlying37 (by kernel_rfl) (fun m => Bridge.RdgF.cons rfl (rd_str m) (Bridge.RdgF.cons rfl (rd_int m) (Bridge.RdgF.cons rfl (rd_int m) (Bridge.RdgF.cons rfl (rd_int m) (Bridge.RdgF.one rfl (rd_int m)))))) m)) (fun _ _ => trivial)
theorem rd_block : Bridge.Rdga Tryd.prog 39 k39 (fun _ => True) := fun m =>
  Bridge.Rdg.imp (Bridge.Rdg.iso (fun x : S39 => (x.f0, x.f1)) (fun p => ⟨p.1, p.2⟩) (fun _ => rfl)
    (Bridge.Rdg.structa Tryd.underlying39 (by kernel_rfl) (fun m => Bridge.RdgF.cons rfl (rd_str m) (Bridge.RdgF.one rfl (rd_int m))) m)) (fun _ _ => trivial)
theorem rd_instrs : Bridge.Rdga Tryd.prog 41 (Kd.slice 29 k29) (fun l => ∀ a ∈ l, True) := Bridge.Rdg.slicea Tryd.underlying41 (by kernel_rfl) rd_instr
theorem rd_unit : Bridge.Rdga Tryd.prog 43 k43 (fun _ => True) := fun m =>
  Bridge.Rdg.imp (Bridge.Rdg.iso (fun x : S43 => (x.f0, x.f1, x.f2, x.f3, x.f4)) (fun p => ⟨p.1, p.2.1, p.2.2.1, p.2.2.2.1, p.2.2.2.2⟩) (fun _ => rfl)
    (Bridge.Rdg.structa Tryd.underlying43 (by kernel_rfl) (fun m => Bridge.RdgF.cons rfl (rd_str m) (Bridge.RdgF.cons rfl (rd_ints m) (Bridge.RdgF.cons rfl (rd_int m) (Bridge.RdgF.cons rfl (rd_ints m) (Bridge.RdgF.one rfl (rd_instrs m)))))) m)) (fun _ _ => trivial)
/-- A program as data: its constants, variables, blocks, units. -/
def KProg : Kd (List S35 × List S37 × List S39 × List S43) := Kd.pair (Kd.slice 35 k35) (Kd.pair (Kd.slice 37 k37) (Kd.pair (Kd.slice 39 k39) (Kd.slice 43 k43)))
theorem rd_prog : Bridge.Rdga Tryd.prog 27 KProg (fun _ => True) := fun m => Bridge.Rdg.imp ((Bridge.Rdg.structa Tryd.underlying27 (by kernel_rfl) (fun m => Bridge.RdgF.cons rfl (Bridge.Rdg.slicea Tryd.underlying22 (by kernel_rfl) rd_const m) (Bridge.RdgF.cons rfl (Bridge.Rdg.slicea Tryd.underlying23 (by kernel_rfl) rd_var m) (Bridge.RdgF.cons rfl (Bridge.Rdg.slicea Tryd.underlying24 (by kernel_rfl) rd_block m) (Bridge.RdgF.one rfl (Bridge.Rdg.slicea Tryd.underlying25 (by kernel_rfl) rd_unit m)))))) m) (fun _ _ => trivial)
theorem prog_of {w : World} {x : List S35 × List S37 × List S39 × List S43} {cs : Array Value} (h : KProg.K w x cs.toList) : ∃ A0 c0 A1 c1 A2 c2 A3 c3, cs = #[.slice A0 x.1.length c0, .slice A1 x.2.1.length c1, .slice A2 x.2.2.1.length c2, .slice A3 x.2.2.2.length c3] ∧ (Kd.C k35 w A0 x.1.length x.1 ∧ x.1.length ≤ c0) ∧ (Kd.C k37 w A1 x.2.1.length x.2.1 ∧ x.2.1.length ≤ c1) ∧ (Kd.C k39 w A2 x.2.2.1.length x.2.2.1 ∧ x.2.2.1.length ≤ c2) ∧ (Kd.C k43 w A3 x.2.2.2.length x.2.2.2 ∧ x.2.2.2.length ≤ c3) := by
  obtain ⟨C, V, B, U⟩ := x
  obtain ⟨_, _, h0, ⟨A0, c0, rfl, l0, g0⟩, _, _, rfl, ⟨A1, c1, rfl, l1, g1⟩, _, _, rfl, ⟨A2, c2, rfl, l2, g2⟩, ⟨A3, c3, rfl, l3, g3⟩⟩ := h
  refine ⟨A0, c0, A1, c1, A2, c2, A3, c3, ?_, ⟨g0, l0⟩, ⟨g1, l1⟩, ⟨g2, l2⟩, ⟨g3, l3⟩⟩
  rw [show cs = cs.toList.toArray by simp, h0]
  rfl
/-- An instruction, and a stack ahead of it. -/
def KAsk : Kd (S29 × List Int) := Kd.pair k29 (Kd.slice 3 (Kd.int .i64))
theorem rd_ask : Bridge.Rdga Tryd.prog 46 KAsk (fun _ => True) := fun m => Bridge.Rdg.imp ((Bridge.Rdg.structa Tryd.underlying46 (by kernel_rfl) (fun m => Bridge.RdgF.cons rfl (rd_instr m) (Bridge.RdgF.one rfl (rd_ints m)))) m) (fun _ _ => trivial)
theorem ask_of {w : World} {x : S29 × List Int} {cs : Array Value} (h : KAsk.K w x cs.toList) : ∃ A c, cs = #[.int .i64 x.1.f0, .int .i64 x.1.f1, .int .i64 x.1.f2, .slice A x.2.length c] ∧ (Kd.int .i64).C w A x.2.length x.2 ∧ x.2.length ≤ c := by
  obtain ⟨i, st⟩ := x
  obtain ⟨_, _, h0, h1, ⟨A, c, rfl, l, g⟩⟩ := h
  refine ⟨A, c, ?_, g, l⟩
  rw [show cs = cs.toList.toArray by simp, h0, k29_open h1]
  rfl
end SkRow
theorem StackSteps_walk (cs : Array Value) (x : List S35 × List S37 × List S39 × List S43) (u : Int) (ca : Array Value) (a : S29 × List Int) (w : World) (hk : SkRow.KProg.K w x cs.toList) (wf : True) (wu : (Lit.int .i64 u).wf = true) (ha : SkRow.KAsk.K w a ca.toList) (wa : True) (hL : laidMetH Tryd.prog Rows.stackStepsRow.laid w) :
    Calls Tryd.prog 4 #[.agg cs, .int .i64 u, .agg ca] w fun e w' => e = .returned (.bool true) ∧ Below w.heap.size w w' := by
  obtain ⟨A0, c0, A1, c1, A2, c2, A3, c3, rfl, ⟨g0, l0⟩, ⟨g1, l1⟩, ⟨g2, l2⟩, ⟨g3, l3⟩⟩ := SkRow.prog_of hk
  obtain ⟨A4, c4, rfl, g4, l4⟩ := SkRow.ask_of ha
  exact ladderbacklaw19_StackSteps.calls 9000 A0 c0 x.1 A1 c1 x.2.1 A2 c2 x.2.2.1 A3 c3 x.2.2.2 u a.1.f0 a.1.f1 a.1.f2 A4 c4 a.2 true w g0 l0 g1 l1 g2 l2 g3 l3 g4 l4 (RPure.StackSteps _ _ _ _ _ _ _ _ _) (SkRow.laid_of hL rfl (by simp [Rows.stackStepsRow]) (by simp [Rows.stackStepsRow]) (by simp [Rows.stackStepsRow]))
end Go.Proofs.YthdlocigijiobaaDoor
end

section
/- The law StackSteps holds for every input: the walk over its code shows that the call returns true and that what was read stays as it was; the row follows. The package-level tables that the code reads are tied to the program's text by the given tie. -/
namespace Go.Proofs.YthdlocigijiobaaDoor.stackStepsRw
open Go.ChangeShapes Go.WideShapes Go.ChangeAt Go.RowKit
open Go.ChangeMaps (open_string shut_string)
open Go.Proofs.YthdlocigijiobaaDoor.Bridge
set_option linter.unusedVariables false
set_option linter.unusedSimpArgs false
theorem own : ownKnob Tryd.prog.godebug = none := by kernel_rfl
theorem laidOut : laidOutB Tryd.prog = true := by kernel_rfl
theorem contract (H : Type) (enc : TypeId × Value → H) (W : World) (base : Nat) (args : Array Value) (ds gs : List (DataW H)) (before : List MemPlace)
    (hval : ∀ (j : Nat) t v, Tryd.f4.params[j]? = some t → args[j]? = some v → Value.okWide Tryd.prog W .any base t v)
    (hW : DataW.Whole enc Tryd.prog Tryd.f4.params.toList Rows.stackStepsSpec.vars false W args.toList ds gs before) (hsz : (DataW.weightsEach Tryd.prog (Tryd.f4.params.toList ++ Rows.stackStepsSpec.plain.varTypes Tryd.prog) (ds ++ gs)).all (· ≤ reachBytes) = true) (hL : laidMetH Tryd.prog Rows.stackStepsRow.laid W) :
    Calls Tryd.prog 4 args W fun e W' => ∃ v, e = .returned v ∧ Rows.stackStepsSpec.post enc Tryd.prog Tryd.f4 false true false false W args v W' := by
  have hW' := hW
  obtain ⟨p, q, hA0, hV, rfl, hfz, hnd⟩ := hW
  have hA : DataW.TrodAll enc Tryd.prog W 0 (fun _ => true) true Tryd.f4.params.toList args.toList ds p := hA0
  rw [Tryd.params4] at hA hval hsz
  obtain ⟨v0, vs0, d0, ds0, p0, q0, hargs, rfl, rfl, h0, r0⟩ := trodAll_cons hA
  obtain ⟨v1, vs1, d1, ds1, p1, q1, rfl, rfl, rfl, h1, r1⟩ := trodAll_cons r0
  obtain ⟨v2, vs2, d2, ds2, p2, q2, rfl, rfl, rfl, h2, r2⟩ := trodAll_cons r1
  obtain ⟨rfl, rfl, rfl⟩ := trodAll_nil r2
  obtain rfl : args = #[v0, v1, v2] := by cases args; simp_all
  obtain ⟨rfl, rfl⟩ := trodVars_none hV
  clear hA0
  have k0 := h0
  have lt0 : ∀ x ∈ p0, x.block < W.heap.size := by obtain ⟨m, hm⟩ := k0; exact DataW.trod_lt m _ _ _ hm
  obtain ⟨cs0, rfl⟩ : ∃ cs, v0 = .agg cs := by
    have z := (hval 0 27 v0 rfl rfl)
    unfold Value.okWide at z
    rw [Tryd.underlying27] at z
    obtain ⟨cs, e, _⟩ := z
    exact ⟨cs, e⟩
  obtain ⟨x0, hk0, wf0⟩ := Rdga.trod SkRow.rd_prog h0
  have k1 := h1
  have lt1 : ∀ x ∈ p1, x.block < W.heap.size := by obtain ⟨m, hm⟩ := k1; exact DataW.trod_lt m _ _ _ hm
  obtain ⟨a1, rfl, _, _, w1⟩ := open_int Tryd.underlying3 (hval 1 3 v1 rfl rfl) h1
  have k2 := h2
  have lt2 : ∀ x ∈ p2, x.block < W.heap.size := by obtain ⟨m, hm⟩ := k2; exact DataW.trod_lt m _ _ _ hm
  obtain ⟨cs2, rfl⟩ : ∃ cs, v2 = .agg cs := by
    have z := (hval 2 46 v2 rfl rfl)
    unfold Value.okWide at z
    rw [Tryd.underlying46] at z
    obtain ⟨cs, e, _⟩ := z
    exact ⟨cs, e⟩
  obtain ⟨x2, hk2, wf2⟩ := Rdga.trod SkRow.rd_ask h2
  refine (StackSteps_walk cs0 x0 a1 cs2 x2 W hk0 wf0 w1 hk2 wf2 hL).mono fun e W' ⟨he, bel⟩ => ?_
  subst he
  exact ⟨_, rfl, _, _, _, [], _, [], hW', trodAll_mk1 (shut_bool Tryd.underlying4 _), (trodAll_cons_mk (Below.trod laidOut (by kernel_rfl) (of_decide_eq_true (by kernel_rfl)) k0 bel lt0) (trodAll_cons_mk (Below.trod laidOut (by kernel_rfl) (of_decide_eq_true (by kernel_rfl)) k1 bel lt1) (trodAll_cons_mk (Below.trod laidOut (by kernel_rfl) (of_decide_eq_true (by kernel_rfl)) k2 bel lt2) trodAll_mk0))), rfl, bel.frame _, fun h => by cases h⟩
theorem laid_met (os : Os) : laidMetH Tryd.prog Rows.stackStepsRow.laid ((World.doorLaid Tryd.prog 4000 os).forCall (fun _ _ => 0) ⟨#[], #[.agg #[.slice none 0 0, .slice none 0 0, .slice none 0 0, .slice none 0 0], .int .i64 0, .agg #[.int .i64 0, .int .i64 0, .int .i64 0, .slice none 0 0]], []⟩).memory :=
  laidMetH_of_parts3 (fuel := 12) (laidMet_of_run' 12 (by kernel_rfl) (by kernel_rfl)) (by kernel_rfl) (by kernel_rfl)
theorem reads (os : Os) {H : Type} (enc : TypeId × Value → H) : ∃ ds places, DataW.whole enc Tryd.prog ((World.doorLaid Tryd.prog 4000 os).forCall (fun _ _ => 0) ⟨#[], #[.agg #[.slice none 0 0, .slice none 0 0, .slice none 0 0, .slice none 0 0], .int .i64 0, .agg #[.int .i64 0, .int .i64 0, .int .i64 0, .slice none 0 0]], []⟩).memory Tryd.f4.params.toList Rows.stackStepsSpec.vars false (#[.agg #[.slice none 0 0, .slice none 0 0, .slice none 0 0, .slice none 0 0], .int .i64 0, .agg #[.int .i64 0, .int .i64 0, .int .i64 0, .slice none 0 0]] : Array Value).toList 8 = some (ds, [], places) :=
  ⟨[.agg [.nil, .nil, .nil, .nil], .lit (.int .i64 0), .agg [.agg [.lit (.int .i64 0), .lit (.int .i64 0), .lit (.int .i64 0)], .nil]], [], by kernel_rfl⟩
set_option maxRecDepth 100000 in
theorem lifted (os : Os) (started : os.Started) (H : Type) (enc : TypeId × Value → H) (F : Stop.Interp) :
    ReturnsInHanded {} Tryd.checked os 4 .any ((OpenSpec.ofChange Rows.stackStepsSpec).preRow enc Tryd.prog Tryd.f4 Rows.stackStepsRow.domain false Rows.stackStepsRow.laid) (((OpenSpec.ofChange Rows.stackStepsSpec).at F).post enc Tryd.prog Tryd.f4 false true false false) := by
  obtain ⟨ds, places, hx⟩ := reads os enc
  refine returnsInHanded_of_row (C := Tryd.checked) (s := OpenSpec.ofChange Rows.stackStepsSpec) own started (by kernel_rfl) Tryd.func4
    (witness_row_at (enc := enc) (C := Tryd.checked) false (World.doorLaid Tryd.prog 4000 os) #[.agg #[.slice none 0 0, .slice none 0 0, .slice none 0 0, .slice none 0 0], .int .i64 0, .agg #[.int .i64 0, .int .i64 0, .int .i64 0, .slice none 0 0]] rfl (by kernel_rfl) (by kernel_rfl) (by kernel_rfl)
      (OpenSpec.preRow_of_cond 8 hx (by kernel_rfl) (fun k hk => by cases hk) (by kernel_rfl) (laid_met os))) ?_
  intro W base args ds gs before hval hW _ _ hsz hL _ _
  exact contract H enc W base args ds gs before hval hW hsz hL
theorem said : Rows.StackStepsSaid :=
  OpenClaim.holds_of_cond 4 Tryd.f4 rfl rfl rfl rfl rfl rfl rfl ⟨rfl, rfl, rfl, rfl, rfl⟩ rfl rfl rfl rfl rfl (by kernel_rfl) Tryd.func4 (by kernel_rfl)
    (of_decide_eq_true (by kernel_rfl)) (by unfold Func.isWrapper; first | (rw [if_pos (by decide +kernel)]; kernel_rfl) | (rw [if_neg (by decide +kernel)]; exact ⟨rfl, rfl⟩))
    (fun os started H enc _ F => by rw [OpenClaim.pre_eq_preRow]; exact lifted os started H enc F)
theorem plain (f : FuncId) (fn : Func) (hf : Tryd.pinned.checked.prog.funcNamed "ladderback/ladderbacklaw19.StackSteps" = some f) (hfn : Tryd.pinned.checked.prog.funcs[f]? = some fn) :
    false = Tryd.pinned.checked.prog.looks [] ∧ ∀ (j : Nat) t, fn.params[j]? = some t → Tryd.pinned.checked.prog.wantsStandIn t = false := by
  obtain rfl : f = 4 := Option.some.inj ((show Tryd.prog.funcNamed "ladderback/ladderbacklaw19.StackSteps" = some 4 by kernel_rfl).symm.trans hf) |>.symm
  obtain rfl : fn = Tryd.f4 := (Option.some.inj (Tryd.func4.symm.trans hfn)).symm
  refine ⟨by kernel_rfl, fun j t ht => ?_⟩
  rw [Tryd.params4] at ht
  have hm : t ∈ [27, 3, 46] := by simpa using Array.mem_of_getElem? ht
  have hall : ([27, 3, 46].all fun u => !Tryd.prog.wantsStandIn u) = true := by kernel_rfl
  exact (show Tryd.prog.wantsStandIn t = false by simpa using List.all_eq_true.1 hall t hm)
theorem card : Rows.StackStepsCardSaid :=
  Claim7.holds_tied_plain_at .later [] _ _ _ _ said (fun _ h => by cases h) (by kernel_rfl) (fun _ h => by cases h) stackSteps_row_tie rfl ⟨rfl, rfl⟩ (by kernel_rfl) rfl plain (by kernel_rfl)
end Go.Proofs.YthdlocigijiobaaDoor.stackStepsRw
namespace Go.Proofs.YthdlocigijiobaaDoor
theorem stackSteps_holds : Rows.StackStepsCardSaid := stackStepsRw.card
#print axioms stackSteps_holds
end Go.Proofs.YthdlocigijiobaaDoor
end
