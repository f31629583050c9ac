/- Printed by a program of this session (wip/pg.py, over the print of the kit): functions, their Lean twins, and the proofs that the calls come to them; each under the conditions that it names. -/
import Derived.Test.YtdbfgfgbjheibaaDoorZBoxBackq
import Derived.Test.YtdbfgfgbjheibaaDoorProg
import Derived.Below
import Derived.Deep.Draws
import Derived.Deep.AppendLies
import Derived.Maps.AppendAt
import Derived.OwnWalk
import Derived.Laws.BytesArg
import Derived.Laws.MakeOwn
import Derived.Laws.OwnMore
import Derived.Deep.OwnRows
import Derived.Tactics
import Derived.Lib.ConvBytes
import Derived.Laws.Slices
import Derived.WalkKit
import Derived.KernelRfl
import Derived.RowKit3
import Derived.Deep.LoopGhost
import Derived.Deep.QuietTactic
import Derived.BigQuiet
import Derived.WideLaws
import Derived.Deep.DeepCutAuto
import Derived.Deep.CutBlock
import Derived.Deep.RegionHeld3
import Derived.Laws.Rows
import Derived.Lib.AppendStr
import Derived.ArgAppend
import Derived.Laws.IdiomCopy
import Derived.OrdersHeld
import Derived.Laws.BitsLemmas
import Derived.RowKit
import Derived.Lib.BufferMore
import Derived.Laws.CopyOwn
import Derived.Laws.BitsAllLaws
import Derived.Lib.SlBytesConst
import Derived.Test.YtdbfgfgbjheibaaDoorZBoxBackaa
import Derived.Test.YtdbfgfgbjheibaaDoorZBoxBackab
import Derived.Test.YtdbfgfgbjheibaaDoorZBoxBackae
section
/- Printed by a program of this session (wip/pg.py, over the print of the kit): functions, their Lean twins, and the proofs that the calls come to them; each under the conditions that it names. -/
namespace Go.Proofs.YtdbfgfgbjheibaaDoor.PBx
open Go.Proofs.YtdbfgfgbjheibaaDoor.Given
open Go.RowKit Go.Proofs.YtdbfgfgbjheibaaDoorW.PrintWords Go.Proofs.YtdbfgfgbjheibaaDoorW.PrintLast Go.Proofs.YtdbfgfgbjheibaaDoorW.PrintMore
attribute [local go_sem] max2_int min2_int max_two min_two max_three min_three max_four min_four   -- for this text's walks alone
set_option linter.unusedVariables false
set_option linter.unusedSimpArgs false

attribute [local go_sem high] eqA41 eqA43 eqA68
/-! ### box_units: function 20 -/
def box_units.l0 : Nat → List (S48) → List Int → List (S48) → Int → Int → Option (List Int × Bool)
 | 0, _, _, _, _, _ => none
 | k + 1, x0, x4, x12, x13, x14 => if x14 < x13 then (if 0 ≤ x14 then (if x14 < (x12.length : Int) then ((unit_Put.f k ((rd_T48 x12 x14).f0) ((rd_T48 x12 x14).f1) ((rd_T48 x12 x14).f2) ((rd_T48 x12 x14).f3) ((rd_T48 x12 x14).f4)).bind fun bt256 => (if bt256.2 = true then ((octet_Put.f x4 4 (bt256.1.length : Int)).bind fun t260 => (if t260.length + bt256.1.length < 140737488355328 then (box_units.l0 k x0 (t260 ++ bt256.1) x12 x13 (wrap64 (x14 + 1))) else (none))) else (some (([] : List Int), false)))) else (none)) else (none)) else (some (x4, decide ((x0.length : Int) ≤ 8)))
def box_units.f (k : Nat) (l0 : List (S48)) : Option (List Int × Bool) := (octet_Put.f ([] : List Int) 1 (l0.length : Int)).bind fun t251 => (box_units.l0 k l0 t251 l0 (l0.length : Int) 0)
theorem box_units.mono_l : ∀ k, (∀ y0 y1 y2 y3 y4, LeO (box_units.l0 k y0 y1 y2 y3 y4) (box_units.l0 (k + 1) y0 y1 y2 y3 y4))
 | 0 => fun _ _ _ _ _ r h => by simp [box_units.l0] at h
 | k + 1 => by
  have ih0 := box_units.mono_l k
  ·intro y0 y1 y2 y3 y4
   unfold box_units.l0
   repeat' first
   | (with_reducible exact ih0 _ _ _ _ _)
   | (with_reducible exact unit_Put.mono _ _ _ _ _ _)
   | (with_reducible exact LeO.refl _)
   | (with_reducible exact LeO.none _)
   | (with_reducible refine LeO.ite ?_ ?_)
   | (with_reducible refine LeO.bind ?_ (fun _ => ?_))
   | exact ih0 _ _ _ _ _
   | exact unit_Put.mono _ _ _ _ _ _
   | exact LeO.none _
   | refine LeO.ite ?_ ?_
   | refine LeO.bind ?_ (fun _ => ?_)
theorem box_units.mono : ∀ a0 k, LeO (box_units.f k a0) (box_units.f (k + 1) a0) := by
 intro a0 k
 have ih0 := box_units.mono_l k
 unfold box_units.f
 repeat' first
   | (with_reducible exact ih0 _ _ _ _ _)
   | (with_reducible exact unit_Put.mono _ _ _ _ _ _)
   | (with_reducible exact LeO.refl _)
   | (with_reducible exact LeO.none _)
   | (with_reducible refine LeO.ite ?_ ?_)
   | (with_reducible refine LeO.bind ?_ (fun _ => ?_))
   | exact ih0 _ _ _ _ _
   | exact unit_Put.mono _ _ _ _ _ _
   | exact LeO.none _
   | refine LeO.ite ?_ ?_
   | refine LeO.bind ?_ (fun _ => ?_)
set_option maxHeartbeats 8000000 in
set_option maxRecDepth 100000 in
theorem box_units.calls (k : Nat) (A0 : Option Addr) (c0 : Nat) (l0 : List (S48)) (r1 : List Int) (r2 : Bool) (w : World) (hr0 : Kd.C k48 w A0 l0.length l0) (hc0 : l0.length ≤ c0) (h : box_units.f k l0 = some (r1, r2)) (hL_ : LaidOps w) :
  Calls Tryd.prog 20 #[.slice A0 l0.length c0] w fun e w' => ∃ v0_ : Value, e = .returned (.tuple #[v0_, .bool r2]) ∧ Kd.R (Kd.int .u8) 5 w' w.heap.size (fun _ => True) v0_ r1 ∧ Below w.heap.size w w' := by
 have HL_ := zA hL_
 clear hL_
 have hu48 := Tryd.underlying48
 have HR0 := zA hr0
 have HC0 := zA hc0
 clear hr0 hc0
 have HB := zA (zX w.heap.size w)
 have H : ((octet_Put.f ([] : List Int) 1 (l0.length : Int)).bind fun t251 => (box_units.l0 k l0 t251 l0 (l0.length : Int) 0)) = some (r1, r2) := h
 clear h
 replace H := Option.bind_eq_some_iff.mp H
 obtain ⟨t251, A20, H⟩ := H
 replace H : (box_units.l0 k l0 t251 l0 (l0.length : Int) 0) = some (r1, r2) := H
 have A2 := zA A20
 clear A20
 have H' := zA H
 clear H
 go_enter Tryd.func20, Tryd.ntmps20
 go_wp2_with (first | ((with_reducible refine gate_callee (f := 22) rfl ?_); refine goesL_ (some 11) rfl rfl Tryd.func22 (by kernel_rfl) rfl #[.slice none 0 0, .int .i64 1, .int .i64 (l0.length : Int)] rfl (by (try simp only [zm, zc, zn]); first | done | rfl | (simp only [zd, zt]; rfl)) ?_; (refine (octet_Put.calls _ _ ([] : List Int) 1 (l0.length : Int) t251 _ ?side1 ?side2 A2.out).mono ?_); (case side1 => exact Kd.C_nil _ _); (case side2 => exact z5 _); rintro e w3 ⟨v252, rfl, ho0, hb⟩; refine ⟨_, rfl, ?_⟩; have HO253 := zA (Kd.R_lower ho0 (below_size (by repeat (first | (with_reducible first | exact HB.out | apply zB | apply zN | apply below_drew1) | exact HB.out)))); replace HB := zA (below_step (by repeat (first | (with_reducible first | exact HB.out | apply zB | apply zN | apply below_drew1) | exact HB.out)) hb); (try clear hb); (try clear hb2); (try clear hk); (try clear hi); (try clear ho0)))
 go_loopg [4, 14] k (fun kq v4 v14 w' => ∃ (x4_1 : List Int) (x14_1 : Int), v14 = .int .i64 x14_1 ∧ Aside0 (box_units.l0 kq l0 x4_1 l0 (l0.length : Int) x14_1 = some (r1, r2)) ∧ Aside0 (kq ≤ k) ∧ Aside0 (Kd.R (Kd.int .u8) 5 w' w.heap.size (fun _ => True) v4 x4_1) ∧ Aside0 (Below w.heap.size w w'))
 case atStart => exact ⟨(t251), (0), (by first | rfl | (simp; done) | (simp [*]; done)), H', ⟨z5 _⟩, ⟨by (with_reducible repeat (first | apply zR | apply zS | apply zT)); exact HO253.out⟩, ⟨by repeat (first | (with_reducible first | exact HB.out | apply zB | apply zN | apply below_drew1) | exact HB.out)⟩⟩
 case round =>
  clear H'
  try clear c2
  try clear p2
  obtain ⟨x4_1, x14_1, rfl, HA, HK1, HO_4, HB⟩ := hrel
  cases gk with
  | zero => exact absurd HA.out (by simp [box_units.l0])
  | succ k1 =>
   have H := HA.out
   clear HA
   simp only [box_units.l0] at H
   by_cases c4 : x14_1 < (l0.length : Int)
   ·rw [if_pos c4] at H
    have c4b0 : decide (x14_1 < (l0.length : Int)) = true := decide_eq_true c4
    clear c4
    by_cases c5 : 0 ≤ x14_1
    ·rw [if_pos c5] at H
     have c5b0 : decide (0 ≤ x14_1) = true := decide_eq_true c5
     clear c5
     by_cases c6 : x14_1 < (l0.length : Int)
     ·rw [if_pos c6] at H
      have c6b0 : decide (x14_1 < (l0.length : Int)) = true := decide_eq_true c6
      clear c6
      replace H := Option.bind_eq_some_iff.mp H
      obtain ⟨⟨t256, t259⟩, A70, H⟩ := H
      replace H : (if t259 = true then ((octet_Put.f x4_1 4 (t256.length : Int)).bind fun t260 => (if t260.length + t256.length < 140737488355328 then (box_units.l0 k1 l0 (t260 ++ t256) l0 (l0.length : Int) (wrap64 (x14_1 + 1))) else (none))) else (some (([] : List Int), false))) = some (r1, r2) := H
      have A7 := zA A70
      clear A70
      by_cases c8 : t259 = true
      ·subst c8
       have H1 : ((octet_Put.f x4_1 4 (t256.length : Int)).bind fun t260 => (if t260.length + t256.length < 140737488355328 then (box_units.l0 k1 l0 (t260 ++ t256) l0 (l0.length : Int) (wrap64 (x14_1 + 1))) else (none))) = some (r1, r2) := by rw [if_pos rfl] at H; exact H
       clear H
       have H := H1
       clear H1
       replace H := Option.bind_eq_some_iff.mp H
       obtain ⟨t260, A90, H⟩ := H
       replace H : (if t260.length + t256.length < 140737488355328 then (box_units.l0 k1 l0 (t260 ++ t256) l0 (l0.length : Int) (wrap64 (x14_1 + 1))) else (none)) = some (r1, r2) := H
       have A9 := zA A90
       clear A90
       by_cases c10 : t260.length + t256.length < 140737488355328
       ·rw [if_pos c10] at H
        have LMc10 := zA c10
        clear c10
        obtain ⟨y263, hy263⟩ : ∃ y_ : List Int, y_ = (t260 ++ t256) := ⟨_, rfl⟩
        replace H : (box_units.l0 k1 l0 y263 l0 (l0.length : Int) (wrap64 (x14_1 + 1))) = some (r1, r2) := by first | (rw [hy263]; with_reducible exact H) | (have H2_ := (zP _ _).symm.trans H; rw [hy263]; with_reducible exact H2_) | (have H2_ := (zP _ _).symm.trans H; with_reducible exact H2_) | with_reducible exact H | (rw [hy263]; exact H) | exact H
        have Ny263 := zA hy263
        clear hy263
        have H' := zA H
        clear H
        have p254 : 0 ≤ (x14_1 : Int) := zO (by first | (with_reducible assumption) | assumption)
        have q254 : x14_1 < (l0.length : Int) := zO (by first | (with_reducible assumption) | assumption)
        obtain ⟨ad254, A254_1, c254_1, A254_3, c254_3, A254_4, c254_4, e254, hx254_0, hx254_1, hx254_2, hx254_3, hx254_4, hl254_1, hi254_1, hl254_3, hi254_3, hl254_4, hi254_4⟩ := at_T48 HR0.out x14_1 p254 q254
        cases e254
        replace hx254_0 := (HB.out.cell (zL w _ hx254_0)).trans hx254_0
        replace hx254_1 := (HB.out.cell (zL w _ hx254_1)).trans hx254_1
        replace hx254_2 := (HB.out.cell (zL w _ hx254_2)).trans hx254_2
        replace hx254_3 := (HB.out.cell (zL w _ hx254_3)).trans hx254_3
        replace hx254_4 := (HB.out.cell (zL w _ hx254_4)).trans hx254_4
        have HR254_1 := zA hi254_1
        have HC254_1 := zA hl254_1
        clear hi254_1 hl254_1
        have HR254_3 := zA hi254_3
        have HC254_3 := zA hl254_3
        clear hi254_3 hl254_3
        have HR254_4 := zA hi254_4
        have HC254_4 := zA hl254_4
        clear hi254_4 hl254_4
        replace p254 := eq_true p254
        replace q254 := eq_true q254
        go_wp2_with (first | ((with_reducible refine gate_dst (N := 6) rfl ?_); refine box_event ?hg (N := 6) ?hd (cs := #[.string (⟨#[]⟩ : ByteArray), .slice none 0 0, .int .i64 0, .slice none 0 0, .slice none 0 0]) (t := 48) ?hr ?_; (case hd => rfl); (case hg => rfl); (case hr => first | (go_simp; done) | (go_simp; rfl)); intro gb255 hg w11 hbox hb; replace HO_4 := zA (Kd.R_below (by (with_reducible repeat (first | apply zR | apply zS | apply zT)); exact HO_4.out) hb); have BK255 := zA (hbox); have GW255 := zA ((by rw [hg]; exact (below_size (by repeat (first | (with_reducible first | exact HB.out | apply zB | apply zN | apply below_drew1) | exact HB.out))) : w.heap.size ≤ gb255)); have GE255 := GW255; replace HB := zA (below_step (by repeat (first | (with_reducible first | exact HB.out | apply zB | apply zN | apply below_drew1) | exact HB.out)) hb); clear hb hbox hg; have hcz12_0 : w11.cell? ⟨gb255, 0, none⟩ = some (.string (⟨#[]⟩ : ByteArray)) := (zC BK255.out 0).trans rfl; have hcz12_1 : w11.cell? ⟨gb255, 1, none⟩ = some (.slice none 0 0) := (zC BK255.out 1).trans rfl; have hcz12_2 : w11.cell? ⟨gb255, 2, none⟩ = some (.int .i64 0) := (zC BK255.out 2).trans rfl; have hcz12_3 : w11.cell? ⟨gb255, 3, none⟩ = some (.slice none 0 0) := (zC BK255.out 3).trans rfl; have hcz12_4 : w11.cell? ⟨gb255, 4, none⟩ = some (.slice none 0 0) := (zC BK255.out 4).trans rfl; have hfz12_0 := zF BK255.out 0; have hfz12_1 := zF BK255.out 1; have hfz12_2 := zF BK255.out 2; have hfz12_3 := zF BK255.out 3; have hfz12_4 := zF BK255.out 4) | ((with_reducible refine gate_callee (f := 56) rfl ?_); refine goesL_ (some 20) rfl rfl Tryd.func56 (by kernel_rfl) rfl #[.agg #[.string ((rd_T48 l0 x14_1).f0), .slice A254_1 ((rd_T48 l0 x14_1).f1).length c254_1, .int .i64 ((rd_T48 l0 x14_1).f2), .slice A254_3 ((rd_T48 l0 x14_1).f3).length c254_3, .slice A254_4 ((rd_T48 l0 x14_1).f4).length c254_4]] rfl (by (try simp only [zm, zc, zn]); first | done | rfl | (simp only [zd, zt]; rfl)) ?_; (with_reducible refine (unit_Put.calls k1 ((rd_T48 l0 x14_1).f0) _ _ ((rd_T48 l0 x14_1).f1) ((rd_T48 l0 x14_1).f2) _ _ ((rd_T48 l0 x14_1).f3) _ _ ((rd_T48 l0 x14_1).f4) t256 true _ ?side1 ?side2 ?side3 ?side4 ?side5 ?side6 A7.out (LaidOps.below HL_.out (by repeat (first | (with_reducible first | exact HB.out | apply zB | apply zN | apply below_drew1 | refine zE ?_ GE255.out) | exact HB.out)))).mono ?_); (case side1 => exact zD HR254_1.out (by repeat (first | (with_reducible first | exact HB.out | apply zB | apply zN | apply below_drew1 | refine zE ?_ GE255.out) | exact HB.out))); (case side2 => exact HC254_1.out); (case side3 => exact zD HR254_3.out (by repeat (first | (with_reducible first | exact HB.out | apply zB | apply zN | apply below_drew1 | refine zE ?_ GE255.out) | exact HB.out))); (case side4 => exact HC254_3.out); (case side5 => exact zD HR254_4.out (by repeat (first | (with_reducible first | exact HB.out | apply zB | apply zN | apply below_drew1 | refine zE ?_ GE255.out) | exact HB.out))); (case side6 => exact HC254_4.out); rintro e w13 ⟨v257, rfl, ho0, hb⟩; refine ⟨_, rfl, ?_⟩; have HO258 := zA (Kd.R_lower (Kd.R_new' ho0 (Kd.R_lt (by (with_reducible repeat (first | apply zR | apply zS | apply zT)); exact (Kd.R_mono (Kd.R_far (p := ⟨gb255, 4, none⟩) (Kd.R_far (p := ⟨gb255, 3, none⟩) (Kd.R_far (p := ⟨gb255, 2, none⟩) (Kd.R_far (p := ⟨gb255, 1, none⟩) (Kd.R_far (p := ⟨gb255, 0, none⟩) (Kd.R_types HO_4.out BK255.out (by decide)) (fun _ hk => hk.2) (.string ((rd_T48 l0 x14_1).f0))) (fun _ hk => hk.2) (.slice A254_1 ((rd_T48 l0 x14_1).f1).length c254_1)) (fun _ hk => hk.2) (.int .i64 ((rd_T48 l0 x14_1).f2))) (fun _ hk => hk.2) (.slice A254_3 ((rd_T48 l0 x14_1).f3).length c254_3)) (fun _ hk => hk.2) (.slice A254_4 ((rd_T48 l0 x14_1).f4).length c254_4)) (fun _ h_ => h_.1))))) (below_size (by repeat (first | (with_reducible first | exact HB.out | apply zB | apply zN | apply below_drew1 | refine zE ?_ GE255.out) | exact HB.out)))); replace HO_4 := zA (Kd.R_elder' (by (with_reducible repeat (first | apply zR | apply zS | apply zT)); exact (Kd.R_mono (Kd.R_far (p := ⟨gb255, 4, none⟩) (Kd.R_far (p := ⟨gb255, 3, none⟩) (Kd.R_far (p := ⟨gb255, 2, none⟩) (Kd.R_far (p := ⟨gb255, 1, none⟩) (Kd.R_far (p := ⟨gb255, 0, none⟩) (Kd.R_types HO_4.out BK255.out (by decide)) (fun _ hk => hk.2) (.string ((rd_T48 l0 x14_1).f0))) (fun _ hk => hk.2) (.slice A254_1 ((rd_T48 l0 x14_1).f1).length c254_1)) (fun _ hk => hk.2) (.int .i64 ((rd_T48 l0 x14_1).f2))) (fun _ hk => hk.2) (.slice A254_3 ((rd_T48 l0 x14_1).f3).length c254_3)) (fun _ hk => hk.2) (.slice A254_4 ((rd_T48 l0 x14_1).f4).length c254_4)) (fun _ h_ => h_.1))) (Kd.R_base ho0) hb); replace BK255 := zA (zQ (g := gb255) (o := .cells #[.string ((rd_T48 l0 x14_1).f0), .slice A254_1 ((rd_T48 l0 x14_1).f1).length c254_1, .int .i64 ((rd_T48 l0 x14_1).f2), .slice A254_3 ((rd_T48 l0 x14_1).f3).length c254_3, .slice A254_4 ((rd_T48 l0 x14_1).f4).length c254_4] 48 (0, 0)) (by (with_reducible repeat (first | refine zG ?_ _ | refine zH ?_)); refine blk_put (cs := #[.string ((rd_T48 l0 x14_1).f0), .slice A254_1 ((rd_T48 l0 x14_1).f1).length c254_1, .int .i64 ((rd_T48 l0 x14_1).f2), .slice A254_3 ((rd_T48 l0 x14_1).f3).length c254_3, .slice none 0 0]) ?_ 4 _ rfl; (with_reducible repeat (first | refine zG ?_ _ | refine zH ?_)); refine blk_put (cs := #[.string ((rd_T48 l0 x14_1).f0), .slice A254_1 ((rd_T48 l0 x14_1).f1).length c254_1, .int .i64 ((rd_T48 l0 x14_1).f2), .slice none 0 0, .slice none 0 0]) ?_ 3 _ rfl; (with_reducible repeat (first | refine zG ?_ _ | refine zH ?_)); refine blk_put (cs := #[.string ((rd_T48 l0 x14_1).f0), .slice A254_1 ((rd_T48 l0 x14_1).f1).length c254_1, .int .i64 0, .slice none 0 0, .slice none 0 0]) ?_ 2 _ rfl; (with_reducible repeat (first | refine zG ?_ _ | refine zH ?_)); refine blk_put (cs := #[.string ((rd_T48 l0 x14_1).f0), .slice none 0 0, .int .i64 0, .slice none 0 0, .slice none 0 0]) ?_ 1 _ rfl; (with_reducible repeat (first | refine zG ?_ _ | refine zH ?_)); refine blk_put (cs := #[.string (⟨#[]⟩ : ByteArray), .slice none 0 0, .int .i64 0, .slice none 0 0, .slice none 0 0]) ?_ 0 _ rfl; (with_reducible repeat (first | refine zG ?_ _ | refine zH ?_)); exact BK255.out) hb); replace HB := zA (below_step (by repeat (first | (with_reducible first | exact HB.out | apply zB | apply zN | apply below_drew1 | refine zE ?_ GE255.out) | exact HB.out)) hb); (try clear hb); (try clear hb2); (try clear hk); (try clear hi); (try clear ho0); obtain ⟨Ao14, co14, eo14⟩ := Kd.R_slice HO258.out; subst eo14; obtain ⟨Ao15, co15, eo15⟩ := Kd.R_slice HO_4.out; subst eo15) | ((with_reducible refine gate_callee (f := 22) rfl ?_); refine goesL_ (some 28) rfl rfl Tryd.func22 (by kernel_rfl) rfl #[.slice Ao15 x4_1.length co15, .int .i64 4, .int .i64 (t256.length : Int)] rfl (by (try simp only [zm, zc, zn]); first | done | rfl | (simp only [zd, zt]; rfl)) ?_; (with_reducible refine (octet_Put.calls _ _ x4_1 4 (t256.length : Int) t260 _ ?side1 ?side2 A9.out).mono ?_); (case side1 => repeat (first | exact (Kd.R_reads' HO_4.out).2.2)); (case side2 => exact (Kd.R_reads' HO_4.out).2.1); rintro e w16 ⟨v261, rfl, ho0, hb⟩; refine ⟨_, rfl, ?_⟩; have HO262 := zA (Kd.R_lower (Kd.R_new' (Kd.R_new' ho0 (Kd.R_lt (by (with_reducible repeat (first | apply zR | apply zS | apply zT)); exact HO_4.out))) (Kd.R_lt (by (with_reducible repeat (first | apply zR | apply zS | apply zT)); exact HO258.out))) (below_size (by repeat (first | (with_reducible first | exact HB.out | apply zB | apply zN | apply below_drew1 | refine zE ?_ GE255.out) | exact HB.out)))); replace HO_4 := zA (Kd.R_elder' (by (with_reducible repeat (first | apply zR | apply zS | apply zT)); exact HO_4.out) (Kd.R_base ho0) hb); replace HO258 := zA (Kd.R_elder' (by (with_reducible repeat (first | apply zR | apply zS | apply zT)); exact HO258.out) (Kd.R_base ho0) hb); replace BK255 := zA (zQ (g := gb255) (o := .cells #[.string ((rd_T48 l0 x14_1).f0), .slice A254_1 ((rd_T48 l0 x14_1).f1).length c254_1, .int .i64 ((rd_T48 l0 x14_1).f2), .slice A254_3 ((rd_T48 l0 x14_1).f3).length c254_3, .slice A254_4 ((rd_T48 l0 x14_1).f4).length c254_4] 48 (0, 0)) (by (with_reducible repeat (first | refine zG ?_ _ | refine zH ?_)); exact BK255.out) hb); replace HB := zA (below_step (by repeat (first | (with_reducible first | exact HB.out | apply zB | apply zN | apply below_drew1 | refine zE ?_ GE255.out) | exact HB.out)) hb); (try clear hb); (try clear hb2); (try clear hk); (try clear hi); (try clear ho0)) | ((with_reducible refine gate_builtin (b := .append) (xs := #[.tmp 28, .tmp 29]) rfl ?_); at_builtin; refine Kd.R_append_rows (Kd.int .u8) (w0 := w) w.heap.size rfl (.tmp 28) (.tmp 29) 28 5 (.int .u8 0) 1 rfl Tryd.underlying28 info5 rfl (by decide) (by omega) v261 t260 t256 _ _ _ (fun k_ => some k_ ≠ (.slice Ao15 x4_1.length co15 : Value).ownBlock ∧ some k_ ≠ (.slice Ao14 t256.length co14 : Value).ownBlock) (fun _ => False) rfl rfl ?aO ?aR (fun _ _ h => h) (fun _ h => h.elim) ?aF ?aB ?aS ?aL ?_; (case aR => repeat (first | exact (Kd.R_reads' HO258.out).2.2)); (case aB => exact (by repeat (first | (with_reducible first | exact HB.out | apply zB | apply zN | apply below_drew1 | refine zE ?_ GE255.out) | exact HB.out))); (case aF => exact (fun k_ hk => ⟨Kd.fresh' (Kd.R_lt (by (with_reducible repeat (first | apply zR | apply zS | apply zT)); exact HO_4.out)) k_ hk, Kd.fresh' (Kd.R_lt (by (with_reducible repeat (first | apply zR | apply zS | apply zT)); exact HO258.out)) k_ hk⟩)); (case aO => exact (by (with_reducible repeat (first | apply zR | apply zS | apply zT)); exact Kd.R_mono HO262.out (fun _ hk => ⟨hk.1.2, hk.2⟩))); (case aS => exact (below_size (by repeat (first | (with_reducible first | exact HB.out | apply zB | apply zN | apply below_drew1 | refine zE ?_ GE255.out) | exact HB.out)))); (case aL => have := LMc10.out; omega); intro v264 w17 ho hb hg hat; rw [← Ny263.out] at ho; replace HO_4 := zA (Kd.R_after (ok := (fun k_ => some k_ ≠ (.slice Ao14 t256.length co14 : Value).ownBlock)) (by (with_reducible repeat (first | apply zR | apply zS | apply zT)); exact Kd.R_mono HO_4.out (fun _ hk => ⟨hk.1.2, hk.2⟩)) hg hat); replace BK255 := zA (blk_grown (g := gb255) (o := .cells #[.string ((rd_T48 l0 x14_1).f0), .slice A254_1 ((rd_T48 l0 x14_1).f1).length c254_1, .int .i64 ((rd_T48 l0 x14_1).f2), .slice A254_3 ((rd_T48 l0 x14_1).f3).length c254_3, .slice A254_4 ((rd_T48 l0 x14_1).f4).length c254_4] 48 (0, 0)) (by (with_reducible repeat (first | refine zG ?_ _ | refine zH ?_)); exact BK255.out) hg (Kd.R_ne HO262.out BK255.out (by decide))); replace HO258 := zA (Kd.R_after (ok := (fun k_ => some k_ ≠ (.slice Ao15 x4_1.length co15 : Value).ownBlock)) (by (with_reducible repeat (first | apply zR | apply zS | apply zT)); exact Kd.R_mono HO258.out (fun _ hk => ⟨hk.1.2, hk.2⟩)) hg hat); replace HB := zA (hb); have HO265 := zA (ho); clear HO262; clear ho hb hg hat))
        go_roundg k1
        case measure => have := HK1.out; omega
        case rel => exact ⟨(y263), (wrap64 (x14_1 + 1)), (by first | rfl | (simp; done) | (simp [*]; done)), H', ⟨by have := HK1.out; omega⟩, ⟨by (with_reducible repeat (first | apply zR | apply zS | apply zT)); exact Kd.R_mono HO265.out (fun _ hk => trivial)⟩, ⟨by repeat (first | (with_reducible first | exact HB.out | apply zB | apply zN | apply below_drew1 | refine zE ?_ GE255.out) | exact HB.out)⟩⟩
       ·rw [if_neg c10] at H
        exact absurd H (by simp)
      ·replace c8 := Bool.eq_false_iff.mpr c8
       subst c8
       have H1 : (some (([] : List Int), false)) = some (r1, r2) := by rw [if_neg (show ¬ (false = true) by decide)] at H; exact H
       clear H
       have H := H1
       clear H1
       simp only [Option.some.injEq, Prod.mk.injEq] at H
       obtain ⟨rfl, rfl⟩ := H
       have p254 : 0 ≤ (x14_1 : Int) := zO (by first | (with_reducible assumption) | assumption)
       have q254 : x14_1 < (l0.length : Int) := zO (by first | (with_reducible assumption) | assumption)
       obtain ⟨ad254, A254_1, c254_1, A254_3, c254_3, A254_4, c254_4, e254, hx254_0, hx254_1, hx254_2, hx254_3, hx254_4, hl254_1, hi254_1, hl254_3, hi254_3, hl254_4, hi254_4⟩ := at_T48 HR0.out x14_1 p254 q254
       cases e254
       replace hx254_0 := (HB.out.cell (zL w _ hx254_0)).trans hx254_0
       replace hx254_1 := (HB.out.cell (zL w _ hx254_1)).trans hx254_1
       replace hx254_2 := (HB.out.cell (zL w _ hx254_2)).trans hx254_2
       replace hx254_3 := (HB.out.cell (zL w _ hx254_3)).trans hx254_3
       replace hx254_4 := (HB.out.cell (zL w _ hx254_4)).trans hx254_4
       have HR254_1 := zA hi254_1
       have HC254_1 := zA hl254_1
       clear hi254_1 hl254_1
       have HR254_3 := zA hi254_3
       have HC254_3 := zA hl254_3
       clear hi254_3 hl254_3
       have HR254_4 := zA hi254_4
       have HC254_4 := zA hl254_4
       clear hi254_4 hl254_4
       replace p254 := eq_true p254
       replace q254 := eq_true q254
       go_wp2_with (first | ((with_reducible refine gate_dst (N := 6) rfl ?_); refine box_event ?hg (N := 6) ?hd (cs := #[.string (⟨#[]⟩ : ByteArray), .slice none 0 0, .int .i64 0, .slice none 0 0, .slice none 0 0]) (t := 48) ?hr ?_; (case hd => rfl); (case hg => rfl); (case hr => first | (go_simp; done) | (go_simp; rfl)); intro gb255 hg w18 hbox hb; replace HO_4 := zA (Kd.R_below (by (with_reducible repeat (first | apply zR | apply zS | apply zT)); exact HO_4.out) hb); have BK255 := zA (hbox); have GW255 := zA ((by rw [hg]; exact (below_size (by repeat (first | (with_reducible first | exact HB.out | apply zB | apply zN | apply below_drew1) | exact HB.out))) : w.heap.size ≤ gb255)); have GE255 := GW255; replace HB := zA (below_step (by repeat (first | (with_reducible first | exact HB.out | apply zB | apply zN | apply below_drew1) | exact HB.out)) hb); clear hb hbox hg; have hcz19_0 : w18.cell? ⟨gb255, 0, none⟩ = some (.string (⟨#[]⟩ : ByteArray)) := (zC BK255.out 0).trans rfl; have hcz19_1 : w18.cell? ⟨gb255, 1, none⟩ = some (.slice none 0 0) := (zC BK255.out 1).trans rfl; have hcz19_2 : w18.cell? ⟨gb255, 2, none⟩ = some (.int .i64 0) := (zC BK255.out 2).trans rfl; have hcz19_3 : w18.cell? ⟨gb255, 3, none⟩ = some (.slice none 0 0) := (zC BK255.out 3).trans rfl; have hcz19_4 : w18.cell? ⟨gb255, 4, none⟩ = some (.slice none 0 0) := (zC BK255.out 4).trans rfl; have hfz19_0 := zF BK255.out 0; have hfz19_1 := zF BK255.out 1; have hfz19_2 := zF BK255.out 2; have hfz19_3 := zF BK255.out 3; have hfz19_4 := zF BK255.out 4) | ((with_reducible refine gate_callee (f := 56) rfl ?_); refine goesL_ (some 20) rfl rfl Tryd.func56 (by kernel_rfl) rfl #[.agg #[.string ((rd_T48 l0 x14_1).f0), .slice A254_1 ((rd_T48 l0 x14_1).f1).length c254_1, .int .i64 ((rd_T48 l0 x14_1).f2), .slice A254_3 ((rd_T48 l0 x14_1).f3).length c254_3, .slice A254_4 ((rd_T48 l0 x14_1).f4).length c254_4]] rfl (by (try simp only [zm, zc, zn]); first | done | rfl | (simp only [zd, zt]; rfl)) ?_; (with_reducible refine (unit_Put.calls k1 ((rd_T48 l0 x14_1).f0) _ _ ((rd_T48 l0 x14_1).f1) ((rd_T48 l0 x14_1).f2) _ _ ((rd_T48 l0 x14_1).f3) _ _ ((rd_T48 l0 x14_1).f4) t256 false _ ?side1 ?side2 ?side3 ?side4 ?side5 ?side6 A7.out (LaidOps.below HL_.out (by repeat (first | (with_reducible first | exact HB.out | apply zB | apply zN | apply below_drew1 | refine zE ?_ GE255.out) | exact HB.out)))).mono ?_); (case side1 => exact zD HR254_1.out (by repeat (first | (with_reducible first | exact HB.out | apply zB | apply zN | apply below_drew1 | refine zE ?_ GE255.out) | exact HB.out))); (case side2 => exact HC254_1.out); (case side3 => exact zD HR254_3.out (by repeat (first | (with_reducible first | exact HB.out | apply zB | apply zN | apply below_drew1 | refine zE ?_ GE255.out) | exact HB.out))); (case side4 => exact HC254_3.out); (case side5 => exact zD HR254_4.out (by repeat (first | (with_reducible first | exact HB.out | apply zB | apply zN | apply below_drew1 | refine zE ?_ GE255.out) | exact HB.out))); (case side6 => exact HC254_4.out); rintro e w20 ⟨v257, rfl, ho0, hb⟩; refine ⟨_, rfl, ?_⟩; have HO258 := zA (Kd.R_lower (Kd.R_new' ho0 (Kd.R_lt (by (with_reducible repeat (first | apply zR | apply zS | apply zT)); exact (Kd.R_mono (Kd.R_far (p := ⟨gb255, 4, none⟩) (Kd.R_far (p := ⟨gb255, 3, none⟩) (Kd.R_far (p := ⟨gb255, 2, none⟩) (Kd.R_far (p := ⟨gb255, 1, none⟩) (Kd.R_far (p := ⟨gb255, 0, none⟩) (Kd.R_types HO_4.out BK255.out (by decide)) (fun _ hk => hk.2) (.string ((rd_T48 l0 x14_1).f0))) (fun _ hk => hk.2) (.slice A254_1 ((rd_T48 l0 x14_1).f1).length c254_1)) (fun _ hk => hk.2) (.int .i64 ((rd_T48 l0 x14_1).f2))) (fun _ hk => hk.2) (.slice A254_3 ((rd_T48 l0 x14_1).f3).length c254_3)) (fun _ hk => hk.2) (.slice A254_4 ((rd_T48 l0 x14_1).f4).length c254_4)) (fun _ h_ => h_.1))))) (below_size (by repeat (first | (with_reducible first | exact HB.out | apply zB | apply zN | apply below_drew1 | refine zE ?_ GE255.out) | exact HB.out)))); replace HO_4 := zA (Kd.R_elder' (by (with_reducible repeat (first | apply zR | apply zS | apply zT)); exact (Kd.R_mono (Kd.R_far (p := ⟨gb255, 4, none⟩) (Kd.R_far (p := ⟨gb255, 3, none⟩) (Kd.R_far (p := ⟨gb255, 2, none⟩) (Kd.R_far (p := ⟨gb255, 1, none⟩) (Kd.R_far (p := ⟨gb255, 0, none⟩) (Kd.R_types HO_4.out BK255.out (by decide)) (fun _ hk => hk.2) (.string ((rd_T48 l0 x14_1).f0))) (fun _ hk => hk.2) (.slice A254_1 ((rd_T48 l0 x14_1).f1).length c254_1)) (fun _ hk => hk.2) (.int .i64 ((rd_T48 l0 x14_1).f2))) (fun _ hk => hk.2) (.slice A254_3 ((rd_T48 l0 x14_1).f3).length c254_3)) (fun _ hk => hk.2) (.slice A254_4 ((rd_T48 l0 x14_1).f4).length c254_4)) (fun _ h_ => h_.1))) (Kd.R_base ho0) hb); replace BK255 := zA (zQ (g := gb255) (o := .cells #[.string ((rd_T48 l0 x14_1).f0), .slice A254_1 ((rd_T48 l0 x14_1).f1).length c254_1, .int .i64 ((rd_T48 l0 x14_1).f2), .slice A254_3 ((rd_T48 l0 x14_1).f3).length c254_3, .slice A254_4 ((rd_T48 l0 x14_1).f4).length c254_4] 48 (0, 0)) (by (with_reducible repeat (first | refine zG ?_ _ | refine zH ?_)); refine blk_put (cs := #[.string ((rd_T48 l0 x14_1).f0), .slice A254_1 ((rd_T48 l0 x14_1).f1).length c254_1, .int .i64 ((rd_T48 l0 x14_1).f2), .slice A254_3 ((rd_T48 l0 x14_1).f3).length c254_3, .slice none 0 0]) ?_ 4 _ rfl; (with_reducible repeat (first | refine zG ?_ _ | refine zH ?_)); refine blk_put (cs := #[.string ((rd_T48 l0 x14_1).f0), .slice A254_1 ((rd_T48 l0 x14_1).f1).length c254_1, .int .i64 ((rd_T48 l0 x14_1).f2), .slice none 0 0, .slice none 0 0]) ?_ 3 _ rfl; (with_reducible repeat (first | refine zG ?_ _ | refine zH ?_)); refine blk_put (cs := #[.string ((rd_T48 l0 x14_1).f0), .slice A254_1 ((rd_T48 l0 x14_1).f1).length c254_1, .int .i64 0, .slice none 0 0, .slice none 0 0]) ?_ 2 _ rfl; (with_reducible repeat (first | refine zG ?_ _ | refine zH ?_)); refine blk_put (cs := #[.string ((rd_T48 l0 x14_1).f0), .slice none 0 0, .int .i64 0, .slice none 0 0, .slice none 0 0]) ?_ 1 _ rfl; (with_reducible repeat (first | refine zG ?_ _ | refine zH ?_)); refine blk_put (cs := #[.string (⟨#[]⟩ : ByteArray), .slice none 0 0, .int .i64 0, .slice none 0 0, .slice none 0 0]) ?_ 0 _ rfl; (with_reducible repeat (first | refine zG ?_ _ | refine zH ?_)); exact BK255.out) hb); replace HB := zA (below_step (by repeat (first | (with_reducible first | exact HB.out | apply zB | apply zN | apply below_drew1 | refine zE ?_ GE255.out) | exact HB.out)) hb); (try clear hb); (try clear hb2); (try clear hk); (try clear hi); (try clear ho0)))
       go_ret2
       exact ⟨_, by first | rfl | (simp [errW_none, errW_some] <;> rfl) | (simp [*, errW_none, errW_some] <;> rfl), by first | exact Kd.R_nil _ _ _ _ _ | exact Kd.N_nil _ _ _ _ _ | exact Kd.V_nil _ _ _ _ _ | exact Kd.Q_nil _ _ _ _ _ | exact Kd.S_nil _ _ _ _ _, by repeat (first | (with_reducible first | exact HB.out | apply zB | apply zN | apply below_drew1 | refine zE ?_ GE255.out) | exact HB.out)⟩
     ·rw [if_neg c6] at H
      exact absurd H (by simp)
    ·rw [if_neg c5] at H
     exact absurd H (by simp)
   ·rw [if_neg c4] at H
    have c4b0 : decide (x14_1 < (l0.length : Int)) = false := decide_eq_false c4
    clear c4
    simp only [Option.some.injEq, Prod.mk.injEq] at H
    obtain ⟨rfl, rfl⟩ := H
    go_wp2
    go_ret2
    exact ⟨_, by first | rfl | (simp [errW_none, errW_some] <;> rfl) | (simp [*, errW_none, errW_some] <;> rfl), by (with_reducible repeat (first | apply zR | apply zS | apply zT)); exact HO_4.out, by repeat (first | (with_reducible first | exact HB.out | apply zB | apply zN | apply below_drew1) | exact HB.out)⟩

/-! ### box_section: function 21 -/
def box_section.f (l0 : List Int) (a1 : Int) (l2 : List Int) : Option (List Int) := (octet_Put.f l0 1 a1).bind fun t266 => ((octet_Put.f t266 4 (l2.length : Int)).bind fun t269 => (if t269.length + l2.length < 140737488355328 then (some (t269 ++ l2)) else (none)))
set_option maxHeartbeats 8000000 in
set_option maxRecDepth 100000 in
theorem box_section.calls (A0 : Option Addr) (c0 : Nat) (l0 : List Int) (a1 : Int) (A2 : Option Addr) (c2 : Nat) (l2 : List Int) (r : List Int) (w : World) (hr0 : Kd.C (Kd.int .u8) w A0 l0.length l0) (hc0 : l0.length ≤ c0) (hr2 : Kd.C (Kd.int .u8) w A2 l2.length l2) (hc2 : l2.length ≤ c2) (h : box_section.f l0 a1 l2 = some r) :
  Calls Tryd.prog 21 #[.slice A0 l0.length c0, .int .i64 a1, .slice A2 l2.length c2] w fun e w' => ∃ v0_ : Value, e = .returned (v0_) ∧ Kd.R (Kd.int .u8) 5 w' w.heap.size (fun _ => True) v0_ r ∧ Below w.heap.size w w' := by
 have HR0 := zA hr0
 have HC0 := zA hc0
 clear hr0 hc0
 have HR2 := zA hr2
 have HC2 := zA hc2
 clear hr2 hc2
 have HB := zA (zX w.heap.size w)
 have H : ((octet_Put.f l0 1 a1).bind fun t266 => ((octet_Put.f t266 4 (l2.length : Int)).bind fun t269 => (if t269.length + l2.length < 140737488355328 then (some (t269 ++ l2)) else (none)))) = some r := h
 clear h
 replace H := Option.bind_eq_some_iff.mp H
 obtain ⟨t266, A40, H⟩ := H
 replace H : ((octet_Put.f t266 4 (l2.length : Int)).bind fun t269 => (if t269.length + l2.length < 140737488355328 then (some (t269 ++ l2)) else (none))) = some r := H
 have A4 := zA A40
 clear A40
 replace H := Option.bind_eq_some_iff.mp H
 obtain ⟨t269, A50, H⟩ := H
 replace H : (if t269.length + l2.length < 140737488355328 then (some (t269 ++ l2)) else (none)) = some r := H
 have A5 := zA A50
 clear A50
 by_cases c6 : t269.length + l2.length < 140737488355328
 ·rw [if_pos c6] at H
  have LMc6 := zA c6
  clear c6
  obtain ⟨y272, hy272⟩ : ∃ y_ : List Int, y_ = (t269 ++ l2) := ⟨_, rfl⟩
  replace H : (some y272) = some r := by first | (rw [hy272]; with_reducible exact H) | (have H2_ := (zP _ _).symm.trans H; rw [hy272]; with_reducible exact H2_) | (have H2_ := (zP _ _).symm.trans H; with_reducible exact H2_) | with_reducible exact H | (rw [hy272]; exact H) | exact H
  have Ny272 := zA hy272
  clear hy272
  obtain rfl := zJ H
  go_enter Tryd.func21, Tryd.ntmps21
  go_wp2_with (first | ((with_reducible refine gate_callee (f := 22) rfl ?_); refine goesL_ (some 9) rfl rfl Tryd.func22 (by kernel_rfl) rfl #[.slice A0 l0.length c0, .int .i64 1, .int .i64 a1] rfl (by (try simp only [zm, zc, zn]); first | done | rfl | (simp only [zd, zt]; rfl)) ?_; (with_reducible refine (octet_Put.calls _ _ l0 1 a1 t266 _ ?side1 ?side2 A4.out).mono ?_); (case side1 => repeat (first | exact HR0.out)); (case side2 => exact HC0.out); rintro e w7 ⟨v267, rfl, ho0, hb⟩; refine ⟨_, rfl, ?_⟩; have HO268 := zA (Kd.R_lower ho0 (below_size (by repeat (first | (with_reducible first | exact HB.out | apply zB | apply zN | apply below_drew1) | exact HB.out)))); replace HB := zA (below_step (by repeat (first | (with_reducible first | exact HB.out | apply zB | apply zN | apply below_drew1) | exact HB.out)) hb); (try clear hb); (try clear hb2); (try clear hk); (try clear hi); (try clear ho0); obtain ⟨Ao8, co8, eo8⟩ := Kd.R_slice HO268.out; subst eo8) | ((with_reducible refine gate_callee (f := 22) rfl ?_); refine goesL_ (some 12) rfl rfl Tryd.func22 (by kernel_rfl) rfl #[.slice Ao8 t266.length co8, .int .i64 4, .int .i64 (l2.length : Int)] rfl (by (try simp only [zm, zc, zn]); first | done | rfl | (simp only [zd, zt]; rfl)) ?_; (with_reducible refine (octet_Put.calls _ _ t266 4 (l2.length : Int) t269 _ ?side1 ?side2 A5.out).mono ?_); (case side1 => repeat (first | exact (Kd.R_reads' HO268.out).2.2)); (case side2 => exact (Kd.R_reads' HO268.out).2.1); rintro e w9 ⟨v270, rfl, ho0, hb⟩; refine ⟨_, rfl, ?_⟩; have HO271 := zA (Kd.R_lower (Kd.R_new' ho0 (Kd.R_lt (by (with_reducible repeat (first | apply zR | apply zS | apply zT)); exact HO268.out))) (below_size (by repeat (first | (with_reducible first | exact HB.out | apply zB | apply zN | apply below_drew1) | exact HB.out)))); replace HO268 := zA (Kd.R_elder' (by (with_reducible repeat (first | apply zR | apply zS | apply zT)); exact HO268.out) (Kd.R_base ho0) hb); replace HB := zA (below_step (by repeat (first | (with_reducible first | exact HB.out | apply zB | apply zN | apply below_drew1) | exact HB.out)) hb); (try clear hb); (try clear hb2); (try clear hk); (try clear hi); (try clear ho0)) | ((with_reducible refine gate_builtin (b := .append) (xs := #[.tmp 12, .tmp 13]) rfl ?_); at_builtin; refine Kd.R_append_rows (Kd.int .u8) (w0 := w) w.heap.size rfl (.tmp 12) (.tmp 13) 28 5 (.int .u8 0) 1 rfl Tryd.underlying28 info5 rfl (by decide) (by omega) v270 t269 l2 _ _ _ (fun k_ => some k_ ≠ (.slice Ao8 t266.length co8 : Value).ownBlock) (fun _ => False) rfl rfl ?aO ?aR (fun _ _ h => h) (fun _ h => h.elim) ?aF ?aB ?aS ?aL ?_; (case aR => repeat (first | exact (zD HR2.out HB.out))); (case aB => exact (by repeat (first | (with_reducible first | exact HB.out | apply zB | apply zN | apply below_drew1) | exact HB.out))); (case aF => exact (fun k_ hk => Kd.fresh' (Kd.R_lt (by (with_reducible repeat (first | apply zR | apply zS | apply zT)); exact HO268.out)) k_ hk)); (case aO => exact (by (with_reducible repeat (first | apply zR | apply zS | apply zT)); exact Kd.R_mono HO271.out (fun _ hk => hk.2))); (case aS => exact (below_size (by repeat (first | (with_reducible first | exact HB.out | apply zB | apply zN | apply below_drew1) | exact HB.out)))); (case aL => have := LMc6.out; omega); intro v273 w10 ho hb hg hat; rw [← Ny272.out] at ho; replace HO268 := zA (Kd.R_after (ok := (fun _ => True)) (by (with_reducible repeat (first | apply zR | apply zS | apply zT)); exact HO268.out) hg hat); replace HB := zA (hb); have HO274 := zA (ho); clear HO271; clear ho hb hg hat))
  go_ret
  exact ⟨_, by first | rfl | (simp [errW_none, errW_some] <;> rfl) | (simp [*, errW_none, errW_some] <;> rfl), by (with_reducible repeat (first | apply zR | apply zS | apply zT)); exact Kd.R_mono HO274.out (fun _ hk => trivial), by repeat (first | (with_reducible first | exact HB.out | apply zB | apply zN | apply below_drew1) | exact HB.out)⟩
 ·rw [if_neg c6] at H
  exact absurd H (by simp)
end Go.Proofs.YtdbfgfgbjheibaaDoor.PBx
end

section
/- Printed by a program of this session (wip/pg.py, over the print of the kit): functions, their Lean twins, and the proofs that the calls come to them; each under the conditions that it names. -/
namespace Go.Proofs.YtdbfgfgbjheibaaDoor.PCrh

open Go.RowKit Go.Proofs.YtdbfgfgbjheibaaDoorW.PrintWords Go.Proofs.YtdbfgfgbjheibaaDoorW.PrintLast Go.Proofs.YtdbfgfgbjheibaaDoorW.PrintMore
attribute [local go_sem] max2_int min2_int max_two min_two max_three min_three max_four min_four   -- for this text's walks alone
set_option linter.unusedVariables false
set_option linter.unusedSimpArgs false



def errW : Option Int → Value
 | none => .nilIface
 | some c => .iface 0 (.int .i64 c)
theorem errW_none : errW none = .nilIface := rfl
theorem errW_some (c : Int) : errW (some c) = .iface 0 (.int .i64 c) := rfl

-- the values' own types

end Go.Proofs.YtdbfgfgbjheibaaDoor.PCrh
end

section
/- Printed by a program of this session (wip/pg.py, over the print of the kit): functions, their Lean twins, and the proofs that the calls come to them; each under the conditions that it names. -/
namespace Go.Proofs.YtdbfgfgbjheibaaDoor.PCrh

open Go.RowKit Go.Proofs.YtdbfgfgbjheibaaDoorW.PrintWords Go.Proofs.YtdbfgfgbjheibaaDoorW.PrintLast Go.Proofs.YtdbfgfgbjheibaaDoorW.PrintMore
attribute [local go_sem] max2_int min2_int max_two min_two max_three min_three max_four min_four   -- for this text's walks alone
set_option linter.unusedVariables false
set_option linter.unusedSimpArgs false

/-! ### crc_half: function 107 -/
def crc_half.l0 : Nat → Int → Int → Option (Int)
 | 0, _, _ => none
 | k + 1, x0, x4 => if x4 < 4 then (if (Go.bits .and .u32 x0 1) = 1 then (crc_half.l0 k (Go.bits .xor .u32 (x0 / 2) 3988292384) (wrap64 (x4 + 1))) else (crc_half.l0 k (x0 / 2) (wrap64 (x4 + 1)))) else (some x0)
def crc_half.f (k : Nat) (a0 : Int) : Option (Int) := crc_half.l0 k a0 0
set_option maxHeartbeats 8000000 in
set_option maxRecDepth 100000 in
theorem crc_half.calls (k : Nat) (a0 : Int) (r : Int) (w : World) (h : crc_half.f k a0 = some r) :
  Calls Tryd.prog 107 #[.int .u32 a0] w fun e w' => e = .returned (.int .u32 r) ∧ Drawn0 w w' := by
 have H : (crc_half.l0 k a0 0) = some r := h
 clear h
 have H' := zA H
 clear H
 go_enter Tryd.func107, Tryd.ntmps107
 go_wp2
 go_loopg [0, 4] k (fun kq v0 v4 w' => ∃ (x0_1 : Int) (x4_1 : Int), v0 = .int .u32 x0_1 ∧ v4 = .int .i64 x4_1 ∧ Aside0 (crc_half.l0 kq x0_1 x4_1 = some r) ∧ Aside0 (kq ≤ k) ∧ Drawn0 w w')
 case atStart => exact ⟨(a0), (0), (by first | rfl | (simp; done) | (simp [*]; done)), (by first | rfl | (simp; done) | (simp [*]; done)), H', ⟨z5 _⟩, by repeat (first | exact z4 _ | apply z3)⟩
 case round =>
  clear H'
  try clear c1
  obtain ⟨x0_1, x4_1, rfl, rfl, HA, HK1, ⟨m1, rfl⟩⟩ := hrel
  cases gk with
  | zero => exact absurd HA.out (by simp [crc_half.l0])
  | succ k1 =>
   have H := HA.out
   clear HA
   simp only [crc_half.l0] at H
   by_cases c2 : x4_1 < 4
   ·rw [if_pos c2] at H
    have c2b0 : decide (x4_1 < 4) = true := decide_eq_true c2
    clear c2
    by_cases c3 : (Go.bits .and .u32 x0_1 1) = 1
    ·rw [if_pos c3] at H
     have c3b0 : ((Go.bits .and .u32 x0_1 1) == 1) = true := beq_iff_eq.mpr c3
     have c3b1 : ((Go.bits .and .u32 x0_1 1) != 1) = false := bne_eq_false_iff_eq.mpr c3
     clear c3
     have H' := zA H
     clear H
     go_wp2
     go_roundg k1
     case measure => have := HK1.out; omega
     case rel => exact ⟨(Go.bits .xor .u32 (x0_1 / 2) 3988292384), (wrap64 (x4_1 + 1)), (by first | rfl | (simp; done) | (simp [*]; done)), (by first | rfl | (simp; done) | (simp [*]; done)), H', ⟨by have := HK1.out; omega⟩, by repeat (first | exact z4 _ | apply z3)⟩
    ·rw [if_neg c3] at H
     have c3b0 : ((Go.bits .and .u32 x0_1 1) == 1) = false := beq_eq_false_iff_ne.mpr c3
     have c3b1 : ((Go.bits .and .u32 x0_1 1) != 1) = true := bne_iff_ne.mpr c3
     have H' := zA H
     clear H
     go_wp2
     go_roundg k1
     case measure => have := HK1.out; omega
     case rel => exact ⟨(x0_1 / 2), (wrap64 (x4_1 + 1)), (by first | rfl | (simp; done) | (simp [*]; done)), (by first | rfl | (simp; done) | (simp [*]; done)), H', ⟨by have := HK1.out; omega⟩, by repeat (first | exact z4 _ | apply z3)⟩
   ·rw [if_neg c2] at H
    have c2b0 : decide (x4_1 < 4) = false := decide_eq_false c2
    clear c2
    obtain rfl := zJ H
    go_wp2
    go_ret
    exact ⟨by first | rfl | (simp; done) | (simp [*]; done), by repeat (first | exact z4 _ | apply z3)⟩

end Go.Proofs.YtdbfgfgbjheibaaDoor.PCrh
end

section
/- A block of cells, read and written: what a store into a block leaves; no conditions beyond the block's lying there. -/
namespace Go.Proofs.YtdbfgfgbjheibaaDoor.Blk
open Go Go.RowKit Go.Proofs.YtdbfgfgbjheibaaDoorW.PrintWords
/-- A block of these cells, none of them shut. -/
def Is (w : World) (b : Nat) (t : TypeId) (xs : List Value) : Prop := w.heap[b]? = some (.cells xs.toArray t (0, 0))
variable {w : World} {b t i : Nat} {xs : List Value} {v : Value}
theorem Is.lt (h : Is w b t xs) : b < w.heap.size := by
 unfold Is at h
 exact (Array.getElem?_eq_some_iff.1 h).1
theorem Is.cell (h : Is w b t xs) (hv : xs[i]? = some v) : w.cell? ⟨b, i, none⟩ = some v := by
 unfold Is at h
 simp [World.cell?, h, hv]
theorem Is.free (h : Is w b t xs) (i : Nat) : w.frozen? ⟨b, i, none⟩ = false := by
 unfold Is at h
 simp [World.frozen?, h]
theorem Is.set (h : Is w b t xs) (i : Nat) (v : Value) : Is (w.setCell ⟨b, i, none⟩ v) b t (xs.set i v) := by
 unfold Is at h ⊢
 have := Lib.heap_setCell_same h (i := i) v
 simpa using this
theorem Is.other {b2 : Nat} (h : Is w b t xs) (i : Nat) (v : Value) (hne : b ≠ b2) : Is (w.setCell ⟨b2, i, none⟩ v) b t xs := by
 unfold Is at h ⊢
 rw [Below.heap_setCell w ⟨b2, i, none⟩ v b hne]
 exact h
theorem Is.below {w2 : World} (h : Is w b t xs) (hb : Below w.heap.size w w2) : Is w2 b t xs := by
 have hl := h.lt
 unfold Is at h ⊢
 rw [hb.block b hl]
 exact h
theorem Is.alloc (h : Is w b t xs) (o : Obj) : Is (w.alloc o) b t xs := h.below ((zX _ _).alloc (z5 _) o)
theorem Is.drewN (h : Is w b t xs) (m : Nat) : Is (w.drewN m) b t xs := h
theorem Is.new (w : World) (t : TypeId) (xs : List Value) : Is (w.alloc (.cells xs.toArray t)) w.heap.size t xs := heap_alloc_new w _
theorem C_cells {k : IntKind} {w : World} {A : Option Addr} {n : Nat} {xs : List Int} (h : Kd.C (Kd.int k) w A n xs) (hn : 0 < n) : ∃ ad, A = some ad ∧ ∀ j (hj : j < xs.length), w.cell? (ad.add j) = some (.int k xs[j]) := by
 have hl := h.1
 obtain ⟨ad, e, hc⟩ := h.2.2 hn
 refine ⟨ad, e, fun j hj => ?_⟩
 obtain ⟨c, _, hK, hcell⟩ := hc j _ (List.getElem?_eq_getElem hj)
 have hK' : c = [Value.int k xs[j]] := hK
 subst hK'
 have := hcell 0 _ rfl
 simpa [Kd.int, Kd.scalar] using this
end Go.Proofs.YtdbfgfgbjheibaaDoor.Blk
end

section
/- The table of the sum of bytes, and a step by it: what they compute, for any state and byte. -/
namespace Go.Proofs.YtdbfgfgbjheibaaDoor
open Go.RowKit Go.Proofs.YtdbfgfgbjheibaaDoorW.PrintWords Go.Proofs.YtdbfgfgbjheibaaDoorW.PrintLast Go.Proofs.YtdbfgfgbjheibaaDoorW.PrintMore Go.Proofs.YtdbfgfgbjheibaaDoor.PCrh
set_option linter.unusedVariables false
set_option linter.unusedSimpArgs false
/-- The table's numbers. -/
def tab : List Int := [0, 498536548, 997073096, 651767980, 1994146192, 1802195444, 1303535960, 1342533948, 3988292384, 4027552580, 3604390888, 3412177804, 2607071920, 2262029012, 2685067896, 3183342108]
theorem half_tab : ∀ i : Nat, i < 16 → crc_half.f 6 i = some (tab.getD i 0) := by decide +kernel
def row (j : Nat) : List Value := nums .u32 (tab.take j ++ List.replicate (16 - j) 0)
theorem row_get (j : Nat) (h : j < 16) : (row j)[j]? = some (.int .u32 0) := by
 rcases (by omega : j = 0 ∨ j = 1 ∨ j = 2 ∨ j = 3 ∨ j = 4 ∨ j = 5 ∨ j = 6 ∨ j = 7 ∨ j = 8 ∨ j = 9 ∨ j = 10 ∨ j = 11 ∨ j = 12 ∨ j = 13 ∨ j = 14 ∨ j = 15) with rfl | rfl | rfl | rfl | rfl | rfl | rfl | rfl | rfl | rfl | rfl | rfl | rfl | rfl | rfl | rfl <;> rfl
theorem row_set (j : Nat) (h : j < 16) : (row j).set j (.int .u32 (tab.getD j 0)) = row (j + 1) := by
 rcases (by omega : j = 0 ∨ j = 1 ∨ j = 2 ∨ j = 3 ∨ j = 4 ∨ j = 5 ∨ j = 6 ∨ j = 7 ∨ j = 8 ∨ j = 9 ∨ j = 10 ∨ j = 11 ∨ j = 12 ∨ j = 13 ∨ j = 14 ∨ j = 15) with rfl | rfl | rfl | rfl | rfl | rfl | rfl | rfl | rfl | rfl | rfl | rfl | rfl | rfl | rfl | rfl <;> rfl
theorem table_calls (w : World) : Calls Tryd.prog 85 #[] w fun e w' => e = .returned (.agg (nums .u32 tab).toArray) ∧ Below w.heap.size w w' := by
 go_enter Tryd.func85, Tryd.ntmps85
 go_wp2_with fail
 go_loopw [3] (fun i wr => ∃ j : Nat, j ≤ 16 ∧ i = .int .i64 j ∧ Aside0 (Blk.Is wr w.heap.size 114 (row 0)) ∧ Aside0 (Blk.Is wr (w.heap.size + 1) 114 (row j)) ∧ Aside0 (Below w.heap.size w wr)) (fun i _ => 16 - (intOf i).toNat)
 case atStart =>
  refine ⟨0, by omega, rfl, ⟨?_⟩, ⟨?_⟩, ⟨?_⟩⟩
  ·exact (Blk.Is.new w _ (row 0)).alloc _
  ·have := Blk.Is.new (w.alloc (.cells (row 0).toArray 114)) 114 (row 0)
   rwa [show (w.alloc (.cells (row 0).toArray 114)).heap.size = w.heap.size + 1 from by simp] at this
  ·exact (((zX _ _).alloc (z5 _) _).alloc (by simp) _)
 case round =>
  obtain ⟨j, hj, rfl, H0, H1, HB⟩ := hrel
  by_cases hlt : j < 16
  ·go_wp2_with fail
   refine (crc_half.calls 6 j _ _ (half_tab j hlt)).mono ?_
   rintro e w2 ⟨rfl, m, rfl⟩
   have h1 := H1.out.drewN m
   have hc := h1.cell (row_get j hlt)
   have hf := h1.free j
   go_wp2
   have HB' := HB.out
   have hb2 : Below w.heap.size w (wr.drewN m) := zN HB' m
   refine ⟨⟨j + 1, by omega, by go_num, ⟨(H0.out.drewN m).other j _ (by omega)⟩, ⟨?_⟩, ⟨hb2.setCell (p := ⟨w.heap.size + 1, j, none⟩) (by simp) _⟩⟩, by simp [intOf]; omega⟩
   have := h1.set j (.int .u32 (tab.getD j 0))
   rw [row_set j hlt] at this
   simpa using this
  ·obtain rfl : j = 16 := by omega
   have h1 : wr.heap[w.heap.size + 1]? = some (.cells (nums .u32 tab).toArray 114 (0, 0)) := H1.out
   have h0 : wr.heap[w.heap.size]? = some (.cells (row 0).toArray 114 (0, 0)) := H0.out
   clear H0 H1
   have hz : (row 0).toArray.size = 16 := rfl
   have hz2 : (nums .u32 tab).toArray.size = 16 := rfl
   have hu := Tryd.underlying114
   have hi : (Tryd.prog.info? 114).map (·.size) = some 16 := by kernel_rfl
   have ho : (nums .u32 tab).toArray.all (·.oneCell') = true := by kernel_rfl
   generalize hT : (nums .u32 tab).toArray = T at *
   generalize hR : (row 0).toArray = R at *
   go_wp2_with first
    | (refine wpList_load_row rfl 114 (.tmp 1) rfl (w.heap.size + 1) rfl 114 T (0, 0) _ h1 hu rfl (by rw [hi, hz2]) ?_)
    | (refine wpList_store_row rfl 114 (.tmp 0) (.tmp 12) rfl w.heap.size T rfl rfl 114 R h0 (by rw [hi, hz2]) (by rw [hz, hz2]) ho ?_)
   refine bodyPost_ret (results_cell_row rfl _ _ w.heap.size 114 T (0, 0) _ rfl (setRow_heap wr _ R T _ _ h0) hu rfl (by rw [hi, hz2])) rfl ⟨by rw [hT], below_setRow HB.out (z5 _) _⟩
/-- The table, where a step finds it. -/
def Tab (w : World) (g : Nat) : Prop := w.heap[g]? = some (.cells (nums .u32 tab).toArray 114 (0, 0))
theorem tab_get (n : Nat) (h : n < 16) : (nums .u32 tab)[n]? = some (.int .u32 (tab.getD n 0)) := by
 rcases (by omega : n = 0 ∨ n = 1 ∨ n = 2 ∨ n = 3 ∨ n = 4 ∨ n = 5 ∨ n = 6 ∨ n = 7 ∨ n = 8 ∨ n = 9 ∨ n = 10 ∨ n = 11 ∨ n = 12 ∨ n = 13 ∨ n = 14 ∨ n = 15) with rfl | rfl | rfl | rfl | rfl | rfl | rfl | rfl | rfl | rfl | rfl | rfl | rfl | rfl | rfl | rfl <;> rfl
/-- Half a step. -/
def halfStep (s : Int) : Int := Go.bits .xor .u32 (s / 16) (tab.getD (Go.bits .and .u32 s 15).toNat 0)
def stepF (s c : Int) : Int := halfStep (halfStep (Go.bits .xor .u32 s c))
theorem and15 (s : Int) (h : 0 ≤ s ∧ s < 4294967296) : 0 ≤ Go.bits .and .u32 s 15 ∧ Go.bits .and .u32 s 15 < 16 := by
 rw [u32_and s 15 h.1 h.2 (by decide) (by decide)]
 have := Nat.and_le_right (n := s.toNat) (m := (15 : Int).toNat)
 have e : (15 : Int).toNat = 15 := rfl
 rw [e] at this ⊢
 omega
theorem xor_lim (a b : Int) : 0 ≤ Go.bits .xor .u32 a b ∧ Go.bits .xor .u32 a b < 4294967296 := by
 have h1 := bits_lo_u32 .xor a b
 have h2 := bits_hi_u32 .xor a b
 omega
set_option maxRecDepth 100000 in
theorem step_calls (g : Nat) (s c : Int) (w : World) (hT : Tab w g) (hc : 0 ≤ c ∧ c < 256) :
  Calls Tryd.prog 86 #[.pointer (some ⟨g, 0, none⟩), .int .u32 s, .int .u8 c] w fun e w' => e = .returned (.int .u32 (stepF s c)) ∧ Drawn0 w w' := by
 obtain ⟨r, hr⟩ : ∃ r, r = stepF s c := ⟨_, rfl⟩
 rw [← hr]
 unfold stepF halfStep at hr
 obtain ⟨x0, e0⟩ : ∃ x, Go.bits .xor .u32 s c = x := ⟨_, rfl⟩
 have l0 := xor_lim s c
 rw [e0] at hr l0
 have a0 := and15 x0 l0
 obtain ⟨i0, f0⟩ : ∃ x, Go.bits .and .u32 x0 15 = x := ⟨_, rfl⟩
 rw [f0] at hr a0
 obtain ⟨t0, g0⟩ : ∃ x, tab.getD i0.toNat 0 = x := ⟨_, rfl⟩
 obtain ⟨x1, e1⟩ : ∃ x, Go.bits .xor .u32 (x0 / 16) t0 = x := ⟨_, rfl⟩
 have l1 := xor_lim (x0 / 16) t0
 rw [g0, e1] at hr
 rw [e1] at l1
 have a1 := and15 x1 l1
 obtain ⟨i1, f1⟩ : ∃ x, Go.bits .and .u32 x1 15 = x := ⟨_, rfl⟩
 rw [f1] at hr a1
 obtain ⟨t1, g1⟩ : ∃ x, tab.getD i1.toNat 0 = x := ⟨_, rfl⟩
 rw [g1] at hr
 have hb : Blk.Is w g 114 (nums .u32 tab) := hT
 have c0 := hb.cell (tab_get i0.toNat (by omega))
 have c1 := hb.cell (tab_get i1.toNat (by omega))
 rw [g0] at c0
 rw [g1] at c1
 replace hr := hr.symm
 clear hT hb g0 g1 l0 l1
 go_enter Tryd.func86, Tryd.ntmps86
 go_wp2_with fail
 go_ret
 exact ⟨rfl, z4 _⟩
theorem Tab.below {w w2 : World} {g : Nat} (h : Tab w g) (hb : Below w.heap.size w w2) : Tab w2 g := Blk.Is.below (xs := nums .u32 tab) h hb
theorem tab_new (w : World) (old : Array Value) (hz : old.size = 16) : Tab ((w.alloc (.cells old 114)).setRow w.heap.size (nums .u32 tab).toArray) w.heap.size := setRow_heap _ _ old _ _ _ (heap_alloc_new w _)
/-- The sum over bytes. -/
def overF (s : Int) (l : List Int) : Int := l.foldl stepF s
set_option maxHeartbeats 1000000 in
theorem Over_calls (A : Option Addr) (c : Nat) (s : Int) (x : List Int) (w : World) (hC : (Kd.int .u8).C w A x.length x) (hle : x.length ≤ c) (hl : x.length ≤ 1000000000) (hx : ∀ a ∈ x, 0 ≤ a ∧ a < 256) :
  Calls Tryd.prog 57 #[.int .u32 s, .slice A x.length c] w fun e w' => e = .returned (.int .u32 (overF s x)) ∧ Below w.heap.size w w' := by
 have HC := zA hC
 have HX := zA hx
 clear hC hx
 have ho : (nums .u32 tab).toArray.all (·.oneCell') = true := by kernel_rfl
 have hi : (Tryd.prog.info? 114).map (·.size) = some 16 := by kernel_rfl
 have hz2 : (nums .u32 tab).toArray.size = 16 := rfl
 obtain ⟨T, hTT⟩ : ∃ T, T = (nums .u32 tab).toArray := ⟨_, rfl⟩
 have hT : ∀ (w1 : World) (old : Array Value), old.size = 16 → Aside0 (Tab ((w1.alloc (.cells old 114)).setRow w1.heap.size T) w1.heap.size) := fun w1 old hz => ⟨by rw [hTT]; exact tab_new w1 old hz⟩
 have HTC := zA (fun w => table_calls w)
 rw [← hTT] at ho hz2 HTC
 clear hTT
 go_enter Tryd.func57, Tryd.ntmps57
 go_wp2_with fail
 refine (HTC.out w).mono ?_
 rintro e w1 ⟨rfl, hb⟩
 have HB1 := zA hb
 clear hb HTC
 go_wp2_with (refine wpList_store_row rfl 114 (.tmp 5) (.tmp 8) rfl w1.heap.size T rfl rfl 114 _ (heap_alloc_new w1 _) (by rw [hi, hz2]) hz2.symm ho ?_)
 go_loopw [0, 11] (fun st i wr => ∃ j : Nat, j ≤ x.length ∧ i = .int .i64 j ∧ st = .int .u32 (overF s (x.take j)) ∧ Aside0 (Tab wr w1.heap.size) ∧ Aside0 (Below w.heap.size w wr)) (fun _ i _ => x.length - (intOf i).toNat)
 case atStart => exact ⟨0, Nat.zero_le _, rfl, rfl, hT w1 _ rfl, ⟨below_setRow (HB1.out.alloc HB1.out.size _) HB1.out.size _⟩⟩
 case round =>
  clear HB1 hT
  obtain ⟨j, hj, rfl, rfl, HT, HB⟩ := hrel
  by_cases hlt : j < x.length
  ·have hx1 := HX.out x[j] (List.getElem_mem hlt)
   obtain ⟨ad, rfl, hcs⟩ := Blk.C_cells (zD HC.out HB.out) (by omega)
   have hcj := hcs j hlt
   clear hcs
   go_wp2_with fail
   refine (step_calls w1.heap.size (overF s (x.take j)) x[j] wr HT.out hx1).mono ?_
   rintro e w2 ⟨rfl, m, rfl⟩
   go_wp2
   refine ⟨⟨j + 1, by omega, by go_num, ?_, ⟨HT.out.below (zN (zX _ _) m)⟩, ⟨zN HB.out m⟩⟩, by simp [intOf]; omega⟩
   have ht : x.take (j + 1) = x.take j ++ [x[j]] := by rw [List.take_add_one, List.getElem?_eq_getElem hlt]; rfl
   rw [ht]
   unfold overF
   rw [List.foldl_append]
   rfl
  ·go_wp2
   go_ret
   refine ⟨?_, HB.out⟩
   rw [List.take_of_length_le (by omega)]
   rfl
theorem stepF_lim (s c : Int) : 0 ≤ stepF s c ∧ stepF s c < 4294967296 := xor_lim _ _
theorem overF_lim (s : Int) (h : 0 ≤ s ∧ s < 4294967296) (l : List Int) : 0 ≤ overF s l ∧ overF s l < 4294967296 := by
 induction l generalizing s with
 | nil => exact h
 | cons a l ih => exact ih _ (stepF_lim s a)
theorem not32 (v : Int) (h : 0 ≤ v ∧ v < 4294967296) : Go.bits .xor .u32 IntKind.u32.max v = 4294967295 - v := by
 rw [show IntKind.u32.max = 4294967295 from by decide, u32_xor _ _ (by decide) (by decide) h.1 h.2]
 obtain ⟨n, rfl⟩ := Int.eq_ofNat_of_zero_le h.1
 have hn : n < 2 ^ 32 := by omega
 have e : (4294967295 : Int).toNat = 2 ^ 32 - 1 := rfl
 rw [e, Int.toNat_natCast]
 have : (2 ^ 32 - 1) ^^^ n = 2 ^ 32 - (n + 1) := by
  apply Nat.eq_of_testBit_eq
  intro i
  rw [Nat.testBit_xor, Nat.testBit_two_pow_sub_one, Nat.testBit_two_pow_sub_succ hn]
  by_cases hi : i < 32
  ·simp [hi]
  ·simp [hi]
   exact Nat.testBit_lt_two_pow (Nat.lt_of_lt_of_le hn (Nat.pow_le_pow_right (by decide) (by omega)))
 rw [this]
 omega
theorem Of_calls (A : Option Addr) (c : Nat) (x : List Int) (w : World) (hC : (Kd.int .u8).C w A x.length x) (hle : x.length ≤ c) (hl : x.length ≤ 1000000000) (hx : ∀ a ∈ x, 0 ≤ a ∧ a < 256) :
  Calls Tryd.prog 23 #[.slice A x.length c] w fun e w' => e = .returned (.int .u32 (4294967295 - overF 4294967295 x)) ∧ Below w.heap.size w w' := by
 have HC := zA hC
 have HX := zA hx
 clear hC hx
 have hn := not32 (overF 4294967295 x) (overF_lim _ (by decide) x)
 go_enter Tryd.func23, Tryd.ntmps23
 go_wp2_with fail
 refine (Over_calls A c 4294967295 x w HC.out hle hl HX.out).mono ?_
 rintro e w1 ⟨rfl, hb⟩
 go_wp2
 go_ret
 exact ⟨by rfl, hb⟩
end Go.Proofs.YtdbfgfgbjheibaaDoor
end

section
/- The contracts of crc.Over, crc.Of and crc.Next as the printed texts call them: any state, any bytes of at most 1000000000. -/
namespace Go.Proofs.YtdbfgfgbjheibaaDoor.Given
open Go.RowKit Go.Proofs.YtdbfgfgbjheibaaDoorW.PrintWords Go.Proofs.YtdbfgfgbjheibaaDoorW.PrintLast Go.Proofs.YtdbfgfgbjheibaaDoorW.PrintMore Go.Proofs.YtdbfgfgbjheibaaDoor
set_option linter.unusedVariables false
def okC (l : List Int) : Prop := l.length ≤ 1000000000 ∧ ∀ a ∈ l, 0 ≤ a ∧ a < 256
instance (l : List Int) : Decidable (okC l) := inferInstanceAs (Decidable (l.length ≤ 1000000000 ∧ ∀ a ∈ l, 0 ≤ a ∧ a < 256))
def crc_Over.f (a0 : Int) (l1 : List Int) : Option Int := if okC l1 then some (overF a0 l1) else none
theorem crc_Over.calls (a0 : Int) (A1 : Option Addr) (c1 : Nat) (l1 : List Int) (r : Int) (w : World) (hr1 : Kd.C (Kd.int .u8) w A1 l1.length l1) (hc1 : l1.length ≤ c1) (h : crc_Over.f a0 l1 = some r) :
  Calls Tryd.prog 57 #[.int .u32 a0, .slice A1 l1.length c1] w fun e w' => e = .returned (.int .u32 r) ∧ Below w.heap.size w w' := by
 unfold crc_Over.f at h
 split at h
 ·rename_i ok
  injection h with h
  subst h
  exact Over_calls A1 c1 a0 l1 w hr1 hc1 ok.1 ok.2
 ·cases h
def crc_Of.f (l0 : List Int) : Option Int := if okC l0 then some (4294967295 - overF 4294967295 l0) else none
theorem crc_Of.calls (A0 : Option Addr) (c0 : Nat) (l0 : List Int) (r : Int) (w : World) (hr0 : Kd.C (Kd.int .u8) w A0 l0.length l0) (hc0 : l0.length ≤ c0) (h : crc_Of.f l0 = some r) :
  Calls Tryd.prog 23 #[.slice A0 l0.length c0] w fun e w' => e = .returned (.int .u32 r) ∧ Below w.heap.size w w' := by
 unfold crc_Of.f at h
 split at h
 ·rename_i ok
  injection h with h
  subst h
  exact Of_calls A0 c0 l0 w hr0 hc0 ok.1 ok.2
 ·cases h
end Go.Proofs.YtdbfgfgbjheibaaDoor.Given
end

section
/- box.Encode walked by hand. -/
namespace Go.Proofs.YtdbfgfgbjheibaaDoor.Given
open Go Go.RowKit Go.Proofs.YtdbfgfgbjheibaaDoor Go.Proofs.YtdbfgfgbjheibaaDoor.PBx Go.Proofs.YtdbfgfgbjheibaaDoorW.PrintWords Go.Proofs.YtdbfgfgbjheibaaDoorW.PrintLast Go.Proofs.YtdbfgfgbjheibaaDoorW.PrintMore
set_option linter.unusedVariables false
set_option linter.unusedSimpArgs false
abbrev LC := List S68
abbrev LV := List S41
abbrev LB := List S43
abbrev LU := List S48
theorem crc_lim {l : List Int} {s : Int} (h : crc_Of.f l = some s) : 0 ≤ s ∧ s < 4294967296 := by
 unfold crc_Of.f at h
 split at h
 ·have := overF_lim 4294967295 (by omega) l
  have := zJ h
  omega
 ·cases h
abbrev cellsQ (A0 : Option Addr) (c0 : Nat) (C : LC) (A1 : Option Addr) (c1 : Nat) (V : LV) (A2 : Option Addr) (c2 : Nat) (B : LB) (A3 : Option Addr) (c3 : Nat) (U : LU) : Obj := .cells #[.slice A0 C.length c0, .slice A1 V.length c1, .slice A2 B.length c2, .slice A3 U.length c3] 27
theorem qCells {b : Nat} {A0 : Option Addr} {c0 : Nat} {C : LC} {A1 : Option Addr} {c1 : Nat} {V : LV} {A2 : Option Addr} {c2 : Nat} {B : LB} {A3 : Option Addr} {c3 : Nat} {U : LU} {w : World} (h : w.heap[b]? = some (cellsQ A0 c0 C A1 c1 V A2 c2 B A3 c3 U)) : w.cell? ⟨b, 0, none⟩ = some (.slice A0 C.length c0) ∧ w.cell? ⟨b, 1, none⟩ = some (.slice A1 V.length c1) ∧ w.cell? ⟨b, 2, none⟩ = some (.slice A2 B.length c2) ∧ w.cell? ⟨b, 3, none⟩ = some (.slice A3 U.length c3) :=
 ⟨(zC h 0).trans rfl, (zC h 1).trans rfl, (zC h 2).trans rfl, (zC h 3).trans rfl⟩
def encTail (c v x u : List Int) : Option (List Int × Bool) :=
 (box_section.f [76, 66, 75, 49] 1 c).bind fun b1 => (box_section.f b1 2 v).bind fun b2 => (box_section.f b2 3 x).bind fun b3 => (box_section.f b3 4 u).bind fun b4 => (crc_Of.f b4).bind fun s => (octet_Put.f b4 4 s).bind fun b5 => if 1048576 < b5.length then some ([], false) else some (b5, true)
def box_Encode.f (C : LC) (V : LV) (B : LB) (U : LU) : Option (List Int × Bool) :=
 (tab_PutConsts.f 30000 C).bind fun rc => (tab_PutVars.f 30000 V).bind fun rv => (tab_PutBlocks.f 30000 B).bind fun rb => (box_units.f 30000 U).bind fun ru => if rc.2 = true ∧ rv.2 = true ∧ rb.2 = true ∧ ru.2 = true then encTail rc.1 rv.1 rb.1 ru.1 else some ([], false)
/-- A row of bytes and a bool come back. -/
def RB (w : World) (r : List Int × Bool) (e : Ending) (w' : World) : Prop := ∃ v0_ : Value, e = .returned (.tuple #[v0_, .bool r.2]) ∧ Kd.R (Kd.int .u8) 5 w' w.heap.size (fun _ => True) v0_ r.1 ∧ Below w.heap.size w w'
set_option maxHeartbeats 16000000 in
set_option maxRecDepth 100000 in
theorem enc_c (A0 : Option Addr) (c0 : Nat) (C : LC) (A1 : Option Addr) (c1 : Nat) (V : LV) (A2 : Option Addr) (c2 : Nat) (B : LB) (A3 : Option Addr) (c3 : Nat) (U : LU) (w : World)
  (g0 : Kd.C k68 w A0 C.length C) (l0 : C.length ≤ c0) (g1 : Kd.C k41 w A1 V.length V) (l1 : V.length ≤ c1) (g2 : Kd.C k43 w A2 B.length B) (l2 : B.length ≤ c2) (g3 : Kd.C k48 w A3 U.length U) (l3 : U.length ≤ c3)
  (rc rv rb ru : List Int) (pc pv pb pu : Bool) (hc : tab_PutConsts.f 30000 C = some (rc, pc)) (hv : tab_PutVars.f 30000 V = some (rv, pv)) (hb : tab_PutBlocks.f 30000 B = some (rb, pb)) (hu : box_units.f 30000 U = some (ru, pu)) (r : List Int × Bool) (hr : (if pc = true ∧ pv = true ∧ pb = true ∧ pu = true then encTail rc rv rb ru else some ([], false)) = some r) (hL : LaidOps w) :
  Calls Tryd.prog 9 #[.agg #[.slice A0 C.length c0, .slice A1 V.length c1, .slice A2 B.length c2, .slice A3 U.length c3]] w (RB w r) := by
 have P0 := zA (fun W (h : Below w.heap.size w W) => tab_PutConsts.calls 30000 A0 c0 C rc pc W (zD g0 h) l0 hc)
 have P1 := zA (fun W (h : Below w.heap.size w W) => tab_PutVars.calls 30000 A1 c1 V rv pv W (zD g1 h) l1 hv)
 have P2 := zA (fun W (h : Below w.heap.size w W) => tab_PutBlocks.calls 30000 A2 c2 B rb pb W (zD g2 h) l2 hb)
 have P3 := zA (fun W (h : Below w.heap.size w W) => box_units.calls 30000 A3 c3 U ru pu W (zD g3 h) l3 hu (hL.below h))
 have HB0 := zA (show Below w.heap.size w (w.alloc (cellsQ A0 c0 C A1 c1 V A2 c2 B A3 c3 U)) from (zX _ _).alloc (z5 _) _)
 have HP0 := zA (show (w.alloc (cellsQ A0 c0 C A1 c1 V A2 c2 B A3 c3 U)).heap[w.heap.size]? = some (cellsQ A0 c0 C A1 c1 V A2 c2 B A3 c3 U) from heap_alloc_new w _)
 have HR := zA hr
 clear g0 g1 g2 g3 hc hv hb hu hL hr
 have kc := fun (w : World) (C : Array Value) (n c : Nat) => Lib.run_convert_bytes_const (P := Tryd.prog) w 28 5 C n c Tryd.underlying28 Tryd.underlying5
 go_enter Tryd.func9, Tryd.ntmps9
 go_wp2_with fail
 refine (P0.out _ HB0.out).mono ?_
 rintro e w1 ⟨v0, rfl, hR, hb⟩
 have HB1 := zA (HB0.out.trans (hb.mono HB0.out.size))
 have HP1 := zA ((hb.block _ (blk_lt HP0.out)).trans HP0.out)
 obtain ⟨Ac, cc, rfl, lc, gc⟩ := Kd.R_reads hR
 have GC1 := zA gc
 clear hR hb gc P0 HB0 HP0
 obtain ⟨q0, q1, q2, q3⟩ := qCells HP1.out
 go_wp2_with fail
 refine (P1.out _ HB1.out).mono ?_
 rintro e w2 ⟨v0, rfl, hR, hb⟩
 have HB2 := zA (HB1.out.trans (hb.mono HB1.out.size))
 have HP2 := zA ((hb.block _ (blk_lt HP1.out)).trans HP1.out)
 have GC2 := zA (zD GC1.out hb)
 obtain ⟨Av, cv, rfl, lv, gv⟩ := Kd.R_reads hR
 have GV2 := zA gv
 clear hR hb gv P1 HB1 HP1 GC1 q0 q1 q2 q3
 obtain ⟨q0, q1, q2, q3⟩ := qCells HP2.out
 go_wp2_with fail
 refine (P2.out _ HB2.out).mono ?_
 rintro e w3 ⟨v0, rfl, hR, hb⟩
 have HB3 := zA (HB2.out.trans (hb.mono HB2.out.size))
 have HP3 := zA ((hb.block _ (blk_lt HP2.out)).trans HP2.out)
 have GC3 := zA (zD GC2.out hb)
 have GV3 := zA (zD GV2.out hb)
 obtain ⟨Ab, cb, rfl, lb, gb⟩ := Kd.R_reads hR
 have GB3 := zA gb
 clear hR hb gb P2 HB2 HP2 GC2 GV2 q0 q1 q2 q3
 obtain ⟨q0, q1, q2, q3⟩ := qCells HP3.out
 go_wp2_with fail
 refine (P3.out _ HB3.out).mono ?_
 rintro e w4 ⟨v0, rfl, hR, hb⟩
 have HB4 := zA (HB3.out.trans (hb.mono HB3.out.size))
 have GC4 := zA (zD GC3.out hb)
 have GV4 := zA (zD GV3.out hb)
 have GB4 := zA (zD GB3.out hb)
 obtain ⟨Au, cu, rfl, lu, gu⟩ := Kd.R_reads hR
 have GU4 := zA gu
 clear hR hb gu P3 HB3 HP3 GC3 GV3 GB3 q0 q1 q2 q3
 have no : ¬ (pc = true ∧ pv = true ∧ pb = true ∧ pu = true) → r = ([], false) := fun h => by have := HR.out; rw [if_neg h] at this; exact (zJ this).symm
 have fin : r = ([], false) → RB w r (.returned (.tuple #[.slice none 0 0, .bool false])) w4 := fun e => by rw [e]; exact ⟨_, rfl, Kd.R_nil _ _ _ _ _, HB4.out⟩
 have NO := zA (fun h => fin (no h))
 clear no fin
 cases pc with
 | false =>
  go_wp2_with fail
  go_ret2
  exact NO.out (by simp)
 | true =>
 cases pv with
 | false =>
  go_wp2_with fail
  go_ret2
  exact NO.out (by simp)
 | true =>
 cases pb with
 | false =>
  go_wp2_with fail
  go_ret2
  exact NO.out (by simp)
 | true =>
 cases pu with
 | false =>
  go_wp2_with fail
  go_ret2
  exact NO.out (by simp)
 | true =>
 have hr := HR.out
 rw [if_pos ⟨rfl, rfl, rfl, rfl⟩] at hr
 unfold encTail at hr
 obtain ⟨b1, s1, hr⟩ := Option.bind_eq_some_iff.1 hr
 obtain ⟨b2, s2, hr⟩ := Option.bind_eq_some_iff.1 hr
 obtain ⟨b3, s3, hr⟩ := Option.bind_eq_some_iff.1 hr
 obtain ⟨b4, s4, hr⟩ := Option.bind_eq_some_iff.1 hr
 obtain ⟨s, s5, hr⟩ := Option.bind_eq_some_iff.1 hr
 obtain ⟨b5, s6, hr⟩ := Option.bind_eq_some_iff.1 hr
 have hlim := crc_lim s5
 have S1 := zA s1
 have S2 := zA s2
 have S3 := zA s3
 have S4 := zA s4
 have S5 := zA s5
 have S6 := zA s6
 have HR2 := zA hr
 clear s1 s2 s3 s4 s5 s6 hr HR NO
 go_wp2_with fail
 obtain ⟨sec, hsec⟩ : ∃ sec : Nat → List Int, sec = fun i => ([[76, 66, 75, 49], b1, b2, b3, b4] : List (List Int)).getD i [] := ⟨_, rfl⟩
 have HS := zA hsec
 clear hsec
 obtain ⟨W5, hW5⟩ : ∃ W5, W5 = w4.alloc (.cells #[.int .u8 76, .int .u8 66, .int .u8 75, .int .u8 49] 5 (4, 5)) := ⟨_, rfl⟩
 have hb5 : Below w4.heap.size w4 W5 := by rw [hW5]; exact (zX _ _).alloc (z5 _) _
 have hC5 : Kd.C (Kd.int .u8) W5 (some ⟨w4.heap.size, 0, none⟩) 4 [76, 66, 75, 49] := by rw [hW5]; exact C_const w4 5 [76, 66, 75, 49] (4, 5) (by decide)
 have HB5 := zA (HB4.out.trans (hb5.mono HB4.out.size))
 have GC5 := zA (zD GC4.out hb5)
 have GV5 := zA (zD GV4.out hb5)
 have GB5 := zA (zD GB4.out hb5)
 have GU5 := zA (zD GU4.out hb5)
 have H5 := zA hC5
 try rw [← hW5]
 clear hW5 hb5 hC5 GC4 GV4 GB4 GU4
 go_loopw [12, 60] (fun b_ x_ wr => ∃ (i : Nat) (A : Option Addr) (c : Nat), i ≤ 4 ∧ x_ = .int .i64 (i : Int) ∧ b_ = .slice A (sec i).length c ∧ (sec i).length ≤ c ∧ Aside0 (Kd.C (Kd.int .u8) wr A (sec i).length (sec i)) ∧ Aside0 (Below W5.heap.size W5 wr)) (fun _ x_ _ => 4 - (intOf x_).toNat)
 case atStart => exact ⟨0, some ⟨w4.heap.size, 0, none⟩, 4, by omega, rfl, by rw [HS.out]; rfl, by rw [HS.out]; exact z5 4, by rw [HS.out]; exact H5, zA (zX _ _)⟩
 case round =>
  obtain ⟨i, A, c, hi, rfl, rfl, hl, HA, HW⟩ := hrel
  have main : ∀ (n : Nat) (t : List Int) (At : Option Addr) (ct : Nat), True := fun _ _ _ _ => trivial
  clear main
  rcases (by omega : i = 0 ∨ i = 1 ∨ i = 2 ∨ i = 3 ∨ i = 4) with rfl | rfl | rfl | rfl | rfl
  ·have PS := zA (box_section.calls A c (sec 0) 1 Ac cc rc (sec 1) wr HA.out hl (zD GC5.out HW.out) lc (by rw [HS.out]; exact S1.out))
   rw [show ((0 : Nat) : Int) = 0 from rfl]
   clear HA hi
   have hix : ∀ w : World, (Instr.index 53 (.agg #[.slice Ac rc.length cc, .slice Av rv.length cv, .slice Ab rb.length cb, .slice Au ru.length cu]) (.int .i64 0)).run Tryd.prog w = .ok (.slice Ac rc.length cc) w := fun _ => by kernel_rfl
   go_wp2_with fail
   clear hix
   refine PS.out.mono ?_
   rintro e w6 ⟨v6, rfl, hR, hb⟩
   obtain ⟨A6, c6, rfl, l6, g6⟩ := Kd.R_reads hR
   have HG := zA g6
   have HW6 := zA (HW.out.trans (hb.mono HW.out.size))
   clear hR hb g6 PS
   go_wp2_with fail
   exact ⟨⟨1, A6, c6, by omega, rfl, rfl, l6, HG, HW6⟩, by decide⟩
  ·have PS := zA (box_section.calls A c (sec 1) 2 Av cv rv (sec 2) wr HA.out hl (zD GV5.out HW.out) lv (by rw [HS.out]; exact S2.out))
   rw [show ((1 : Nat) : Int) = 1 from rfl]
   clear HA hi
   have hix : ∀ w : World, (Instr.index 53 (.agg #[.slice Ac rc.length cc, .slice Av rv.length cv, .slice Ab rb.length cb, .slice Au ru.length cu]) (.int .i64 1)).run Tryd.prog w = .ok (.slice Av rv.length cv) w := fun _ => by kernel_rfl
   go_wp2_with fail
   clear hix
   refine PS.out.mono ?_
   rintro e w6 ⟨v6, rfl, hR, hb⟩
   obtain ⟨A6, c6, rfl, l6, g6⟩ := Kd.R_reads hR
   have HG := zA g6
   have HW6 := zA (HW.out.trans (hb.mono HW.out.size))
   clear hR hb g6 PS
   go_wp2_with fail
   exact ⟨⟨2, A6, c6, by omega, rfl, rfl, l6, HG, HW6⟩, by decide⟩
  ·have PS := zA (box_section.calls A c (sec 2) 3 Ab cb rb (sec 3) wr HA.out hl (zD GB5.out HW.out) lb (by rw [HS.out]; exact S3.out))
   rw [show ((2 : Nat) : Int) = 2 from rfl]
   clear HA hi
   have hix : ∀ w : World, (Instr.index 53 (.agg #[.slice Ac rc.length cc, .slice Av rv.length cv, .slice Ab rb.length cb, .slice Au ru.length cu]) (.int .i64 2)).run Tryd.prog w = .ok (.slice Ab rb.length cb) w := fun _ => by kernel_rfl
   go_wp2_with fail
   clear hix
   refine PS.out.mono ?_
   rintro e w6 ⟨v6, rfl, hR, hb⟩
   obtain ⟨A6, c6, rfl, l6, g6⟩ := Kd.R_reads hR
   have HG := zA g6
   have HW6 := zA (HW.out.trans (hb.mono HW.out.size))
   clear hR hb g6 PS
   go_wp2_with fail
   exact ⟨⟨3, A6, c6, by omega, rfl, rfl, l6, HG, HW6⟩, by decide⟩
  ·have PS := zA (box_section.calls A c (sec 3) 4 Au cu ru (sec 4) wr HA.out hl (zD GU5.out HW.out) lu (by rw [HS.out]; exact S4.out))
   rw [show ((3 : Nat) : Int) = 3 from rfl]
   clear HA hi
   have hix : ∀ w : World, (Instr.index 53 (.agg #[.slice Ac rc.length cc, .slice Av rv.length cv, .slice Ab rb.length cb, .slice Au ru.length cu]) (.int .i64 3)).run Tryd.prog w = .ok (.slice Au ru.length cu) w := fun _ => by kernel_rfl
   go_wp2_with fail
   clear hix
   refine PS.out.mono ?_
   rintro e w6 ⟨v6, rfl, hR, hb⟩
   obtain ⟨A6, c6, rfl, l6, g6⟩ := Kd.R_reads hR
   have HG := zA g6
   have HW6 := zA (HW.out.trans (hb.mono HW.out.size))
   clear hR hb g6 PS
   go_wp2_with fail
   exact ⟨⟨4, A6, c6, by omega, rfl, rfl, l6, HG, HW6⟩, by decide⟩
  ·have e4 : sec 4 = b4 := by rw [HS.out]; rfl
   rw [e4] at hl HA ⊢
   have P5 := zA (crc_Of.calls A c b4 s wr HA.out hl S5.out)
   have hs0 := hlim.1
   have hs1 := hlim.2
   rw [show ((4 : Nat) : Int) = 4 from rfl]
   clear e4 hi hlim
   have HB6 := zA (HB5.out.trans (HW.out.mono HB5.out.size))
   go_wp2_with fail
   refine P5.out.mono ?_
   rintro e w7 ⟨rfl, hb⟩
   have HB7 := zA (HB6.out.trans (hb.mono HB6.out.size))
   have P6 := zA (octet_Put.calls A c b4 4 s b5 w7 (zD HA.out hb) hl S6.out)
   clear hb P5 HA
   go_wp2_with fail
   refine P6.out.mono ?_
   rintro e w8 ⟨v8, rfl, hR, hb⟩
   have HB8 := zA (HB7.out.trans (hb.mono HB7.out.size))
   have HR8 := zA (Kd.R_lower hR HB7.out.size)
   obtain ⟨A8, c8, rfl, l8, g8⟩ := Kd.R_reads hR
   have m8 := g8.2.1
   clear hR hb g8 P6
   by_cases h9 : 1048576 < b5.length
   ·have e9 : r = ([], false) := by have := HR2.out; rw [if_pos h9] at this; exact (zJ this).symm
    have E9 := zA e9
    clear e9
    go_wp2_with fail
    go_ret2
    rw [E9.out]
    exact ⟨_, rfl, Kd.R_nil _ _ _ _ _, HB8.out⟩
   ·have e9 : r = (b5, true) := by have := HR2.out; rw [if_neg h9] at this; exact (zJ this).symm
    have E9 := zA e9
    clear e9
    go_wp2_with fail
    go_ret2
    rw [E9.out]
    exact ⟨_, rfl, HR8.out, HB8.out⟩
theorem box_Encode.calls (A0_0 : Option Addr) (c0_0 : Nat) (l0_0 : LC) (A0_1 : Option Addr) (c0_1 : Nat) (l0_1 : LV) (A0_2 : Option Addr) (c0_2 : Nat) (l0_2 : LB) (A0_3 : Option Addr) (c0_3 : Nat) (l0_3 : LU) (r1 : List Int) (r2 : Bool) (w : World) (hr0_0 : Kd.C k68 w A0_0 l0_0.length l0_0) (hc0_0 : l0_0.length ≤ c0_0) (hr0_1 : Kd.C k41 w A0_1 l0_1.length l0_1) (hc0_1 : l0_1.length ≤ c0_1) (hr0_2 : Kd.C k43 w A0_2 l0_2.length l0_2) (hc0_2 : l0_2.length ≤ c0_2) (hr0_3 : Kd.C k48 w A0_3 l0_3.length l0_3) (hc0_3 : l0_3.length ≤ c0_3) (h : box_Encode.f l0_0 l0_1 l0_2 l0_3 = some (r1, r2)) (hL_ : LaidOps w) :
  Calls Tryd.prog 9 #[.agg #[.slice A0_0 l0_0.length c0_0, .slice A0_1 l0_1.length c0_1, .slice A0_2 l0_2.length c0_2, .slice A0_3 l0_3.length c0_3]] w fun e w' => ∃ v0_ : Value, e = .returned (.tuple #[v0_, .bool r2]) ∧ Kd.R (Kd.int .u8) 5 w' w.heap.size (fun _ => True) v0_ r1 ∧ Below w.heap.size w w' := by
 unfold box_Encode.f at h
 obtain ⟨⟨rc, pc⟩, h0, h⟩ := Option.bind_eq_some_iff.1 h
 obtain ⟨⟨rv, pv⟩, h1, h⟩ := Option.bind_eq_some_iff.1 h
 obtain ⟨⟨rb, pb⟩, h2, h⟩ := Option.bind_eq_some_iff.1 h
 obtain ⟨⟨ru, pu⟩, h3, h⟩ := Option.bind_eq_some_iff.1 h
 exact enc_c A0_0 c0_0 l0_0 A0_1 c0_1 l0_1 A0_2 c0_2 l0_2 A0_3 c0_3 l0_3 w hr0_0 hc0_0 hr0_1 hc0_1 hr0_2 hc0_2 hr0_3 hc0_3 rc rv rb ru pc pv pb pu h0 h1 h2 h3 (r1, r2) h hL_
end Go.Proofs.YtdbfgfgbjheibaaDoor.Given
end

section
/- Printed by a program of this session (wip/pg.py, over the print of the kit): functions, their Lean twins, and the proofs that the calls come to them; each under the conditions that it names. -/
namespace Go.Proofs.YtdbfgfgbjheibaaDoor.PBx
open Go.Proofs.YtdbfgfgbjheibaaDoor.Given
open Go.RowKit Go.Proofs.YtdbfgfgbjheibaaDoorW.PrintWords Go.Proofs.YtdbfgfgbjheibaaDoorW.PrintLast Go.Proofs.YtdbfgfgbjheibaaDoorW.PrintMore
attribute [local go_sem] max2_int min2_int max_two min_two max_three min_three max_four min_four   -- for this text's walks alone
set_option linter.unusedVariables false
set_option linter.unusedSimpArgs false

attribute [local go_sem high] eqA41 eqA43 eqA68
/-! ### w16_awake: function 8 -/
def w16_awake.f  : Option (Bool) := (box_Encode.f ([] : List (S68)) ([] : List (S41)) ([] : List (S43)) ([] : List (S48))).bind fun bt275 => (if bt275.2 = true then (if (bt275.1.length : Int) = 35 then (if 4 ≤ (bt275.1.length : Int) then (some ((strOfNums (bt275.1.take 4)).toList == ([76, 66, 75, 49] : List UInt8))) else (none)) else (some false)) else (some false))
set_option maxHeartbeats 8000000 in
set_option maxRecDepth 100000 in
theorem w16_awake.calls  (r : Bool) (w : World) (h : w16_awake.f  = some r) (hL_ : LaidOps w) :
  Calls Tryd.prog 8 #[] w fun e w' => e = .returned (.bool r) ∧ Below w.heap.size w w' := by
 have HL_ := zA hL_
 clear hL_
 have hu27 := Tryd.underlying27
 have HB := zA (zX w.heap.size w)
 have H : ((box_Encode.f ([] : List (S68)) ([] : List (S41)) ([] : List (S43)) ([] : List (S48))).bind fun bt275 => (if bt275.2 = true then (if (bt275.1.length : Int) = 35 then (if 4 ≤ (bt275.1.length : Int) then (some ((strOfNums (bt275.1.take 4)).toList == ([76, 66, 75, 49] : List UInt8))) else (none)) else (some false)) else (some false))) = some r := h
 clear h
 replace H := Option.bind_eq_some_iff.mp H
 obtain ⟨⟨t275, t278⟩, A10, H⟩ := H
 replace H : (if t278 = true then (if (t275.length : Int) = 35 then (if 4 ≤ (t275.length : Int) then (some ((strOfNums (t275.take 4)).toList == ([76, 66, 75, 49] : List UInt8))) else (none)) else (some false)) else (some false)) = some r := H
 have A1 := zA A10
 clear A10
 by_cases c2 : t278 = true
 ·subst c2
  have H1 : (if (t275.length : Int) = 35 then (if 4 ≤ (t275.length : Int) then (some ((strOfNums (t275.take 4)).toList == ([76, 66, 75, 49] : List UInt8))) else (none)) else (some false)) = some r := by rw [if_pos rfl] at H; exact H
  clear H
  have H := H1
  clear H1
  by_cases c3 : (t275.length : Int) = 35
  ·rw [if_pos c3] at H
   have c3b0 : ((t275.length : Int) == 35) = true := beq_iff_eq.mpr c3
   have c3b1 : ((t275.length : Int) != 35) = false := bne_eq_false_iff_eq.mpr c3
   clear c3
   by_cases c4 : 4 ≤ (t275.length : Int)
   ·rw [if_pos c4] at H
    have c4b0 := eq_true c4
    have c4b1 : decide (4 ≤ (t275.length : Int)) = true := decide_eq_true c4
    clear c4
    obtain ⟨y279, hy279⟩ : ∃ y_ : List Int, y_ = (t275.take 4) := ⟨_, rfl⟩
    replace H : (some ((strOfNums y279).toList == ([76, 66, 75, 49] : List UInt8))) = some r := by first | (rw [hy279]; with_reducible exact H) | (have H2_ := (zP _ _).symm.trans H; rw [hy279]; with_reducible exact H2_) | (have H2_ := (zP _ _).symm.trans H; with_reducible exact H2_) | with_reducible exact H | (rw [hy279]; exact H) | exact H
    have Ny279 := zA hy279
    clear hy279
    obtain rfl := zJ H
    go_enter Tryd.func8, Tryd.ntmps8
    go_wp2_with (first | ((with_reducible refine gate_callee (f := 9) rfl ?_); refine goesL_ (some 5) rfl rfl Tryd.func9 (by kernel_rfl) rfl #[.agg #[.slice none 0 0, .slice none 0 0, .slice none 0 0, .slice none 0 0]] rfl (by (try simp only [zm, zc, zn]); first | done | rfl | (simp only [zd, zt]; rfl)) ?_; (refine (box_Encode.calls _ _ ([] : List (S68)) _ _ ([] : List (S41)) _ _ ([] : List (S43)) _ _ ([] : List (S48)) t275 true _ ?side1 ?side2 ?side3 ?side4 ?side5 ?side6 ?side7 ?side8 A1.out (LaidOps.below HL_.out (by repeat (first | (with_reducible first | exact HB.out | apply zB | apply zN | apply below_drew1) | exact HB.out)))).mono ?_); (case side1 => exact Kd.C_nil _ _); (case side2 => exact z5 _); (case side3 => exact Kd.C_nil _ _); (case side4 => exact z5 _); (case side5 => exact Kd.C_nil _ _); (case side6 => exact z5 _); (case side7 => exact Kd.C_nil _ _); (case side8 => exact z5 _); rintro e w5 ⟨v276, rfl, ho0, hb⟩; refine ⟨_, rfl, ?_⟩; have HO277 := zA (Kd.R_lower ho0 (below_size (by repeat (first | (with_reducible first | exact HB.out | apply zB | apply zN | apply below_drew1) | exact HB.out)))); replace HB := zA (below_step (by repeat (first | (with_reducible first | exact HB.out | apply zB | apply zN | apply below_drew1) | exact HB.out)) hb); (try clear hb); (try clear hb2); (try clear hk); (try clear hi); (try clear ho0); obtain ⟨Ao6, co6, eo6⟩ := Kd.R_slice HO277.out; subst eo6; have q7 : (4 : Int) ≤ ((t275.length : Int) : Int) := zO (by first | (with_reducible assumption) | assumption); obtain ⟨i07, hi07, _, hsz7, _⟩ := info_parts info5; have hroom7 : t275.length ≤ co6 := (Kd.R_reads' HO277.out).2.1; have hC7 : Kd.C (Kd.int .u8) _ Ao6 t275.length t275 := (Kd.R_reads' HO277.out).2.2; have hcut7 := cut_to (P := Tryd.prog) 28 5 .i64 Tryd.underlying28 hi07 Ao6 t275.length co6 4 (by omega) q7 hroom7; have hr7 := Kd.C_take (m := 4) hC7 (by omega); have hy7 : y279.length = (4 : Int).toNat := (by rw [Ny279.out, zt]; omega); rw [← Ny279.out] at hr7; rw [← hy7] at hcut7; have HR282 := zA hr7; have HC282 := zA (show y279.length ≤ co6 from by omega); clear hr7 hC7 hroom7 hi07 hsz7; have KY7 := zA hy7; clear hy7; have KL7 := zA (show 4 ≤ t275.length from by omega); replace q7 := eq_true q7; have hcv8 := Kd.C_string (P := Tryd.prog) (A := Ao6) (c := co6) Tryd.underlying28 Tryd.underlying5 Tryd.underlying9 (by repeat (first | (with_reducible exact HR282.out) | exact HR282.out))))
    go_ret
    exact ⟨by first | rfl | (simp [errW_none, errW_some] <;> rfl) | (simp [*, errW_none, errW_some] <;> rfl), by repeat (first | (with_reducible first | exact HB.out | apply zB | apply zN | apply below_drew1) | exact HB.out)⟩
   ·rw [if_neg c4] at H
    exact absurd H (by simp)
  ·rw [if_neg c3] at H
   have c3b0 : ((t275.length : Int) == 35) = false := beq_eq_false_iff_ne.mpr c3
   have c3b1 : ((t275.length : Int) != 35) = true := bne_iff_ne.mpr c3
   obtain rfl := zJ H
   go_enter Tryd.func8, Tryd.ntmps8
   go_wp2_with (first | ((with_reducible refine gate_callee (f := 9) rfl ?_); refine goesL_ (some 5) rfl rfl Tryd.func9 (by kernel_rfl) rfl #[.agg #[.slice none 0 0, .slice none 0 0, .slice none 0 0, .slice none 0 0]] rfl (by (try simp only [zm, zc, zn]); first | done | rfl | (simp only [zd, zt]; rfl)) ?_; (refine (box_Encode.calls _ _ ([] : List (S68)) _ _ ([] : List (S41)) _ _ ([] : List (S43)) _ _ ([] : List (S48)) t275 true _ ?side1 ?side2 ?side3 ?side4 ?side5 ?side6 ?side7 ?side8 A1.out (LaidOps.below HL_.out (by repeat (first | (with_reducible first | exact HB.out | apply zB | apply zN | apply below_drew1) | exact HB.out)))).mono ?_); (case side1 => exact Kd.C_nil _ _); (case side2 => exact z5 _); (case side3 => exact Kd.C_nil _ _); (case side4 => exact z5 _); (case side5 => exact Kd.C_nil _ _); (case side6 => exact z5 _); (case side7 => exact Kd.C_nil _ _); (case side8 => exact z5 _); rintro e w9 ⟨v276, rfl, ho0, hb⟩; refine ⟨_, rfl, ?_⟩; have HO277 := zA (Kd.R_lower ho0 (below_size (by repeat (first | (with_reducible first | exact HB.out | apply zB | apply zN | apply below_drew1) | exact HB.out)))); replace HB := zA (below_step (by repeat (first | (with_reducible first | exact HB.out | apply zB | apply zN | apply below_drew1) | exact HB.out)) hb); (try clear hb); (try clear hb2); (try clear hk); (try clear hi); (try clear ho0); obtain ⟨Ao10, co10, eo10⟩ := Kd.R_slice HO277.out; subst eo10))
   go_ret
   exact ⟨by first | rfl | (simp [errW_none, errW_some] <;> rfl) | (simp [*, errW_none, errW_some] <;> rfl), by repeat (first | (with_reducible first | exact HB.out | apply zB | apply zN | apply below_drew1) | exact HB.out)⟩
 ·replace c2 := Bool.eq_false_iff.mpr c2
  subst c2
  have H1 : (some false) = some r := by rw [if_neg (show ¬ (false = true) by decide)] at H; exact H
  clear H
  have H := H1
  clear H1
  obtain rfl := zJ H
  go_enter Tryd.func8, Tryd.ntmps8
  go_wp2_with (first | ((with_reducible refine gate_callee (f := 9) rfl ?_); refine goesL_ (some 5) rfl rfl Tryd.func9 (by kernel_rfl) rfl #[.agg #[.slice none 0 0, .slice none 0 0, .slice none 0 0, .slice none 0 0]] rfl (by (try simp only [zm, zc, zn]); first | done | rfl | (simp only [zd, zt]; rfl)) ?_; (refine (box_Encode.calls _ _ ([] : List (S68)) _ _ ([] : List (S41)) _ _ ([] : List (S43)) _ _ ([] : List (S48)) t275 false _ ?side1 ?side2 ?side3 ?side4 ?side5 ?side6 ?side7 ?side8 A1.out (LaidOps.below HL_.out (by repeat (first | (with_reducible first | exact HB.out | apply zB | apply zN | apply below_drew1) | exact HB.out)))).mono ?_); (case side1 => exact Kd.C_nil _ _); (case side2 => exact z5 _); (case side3 => exact Kd.C_nil _ _); (case side4 => exact z5 _); (case side5 => exact Kd.C_nil _ _); (case side6 => exact z5 _); (case side7 => exact Kd.C_nil _ _); (case side8 => exact z5 _); rintro e w11 ⟨v276, rfl, ho0, hb⟩; refine ⟨_, rfl, ?_⟩; have HO277 := zA (Kd.R_lower ho0 (below_size (by repeat (first | (with_reducible first | exact HB.out | apply zB | apply zN | apply below_drew1) | exact HB.out)))); replace HB := zA (below_step (by repeat (first | (with_reducible first | exact HB.out | apply zB | apply zN | apply below_drew1) | exact HB.out)) hb); (try clear hb); (try clear hb2); (try clear hk); (try clear hi); (try clear ho0)))
  go_ret
  exact ⟨by first | rfl | (simp [errW_none, errW_some] <;> rfl) | (simp [*, errW_none, errW_some] <;> rfl), by repeat (first | (with_reducible first | exact HB.out | apply zB | apply zN | apply below_drew1) | exact HB.out)⟩

/-! ### r14_SameConsts: function 26 -/
def r14_SameConsts.l0 : Nat → List (S68) → List (S68) → Int → Option (Bool)
 | 0, _, _, _ => none
 | k + 1, x0, x1, x5 => if x5 < (x0.length : Int) then (if 0 ≤ x5 then (if x5 < (x1.length : Int) then (if (!(((rd_T68 x0 x5).f0) == ((rd_T68 x1 x5).f0)) || (!(((rd_T68 x0 x5).f1) == ((rd_T68 x1 x5).f1)))) = true then (some false) else (r14_SameConsts.l0 k x0 x1 (wrap64 (x5 + 1)))) else (none)) else (none)) else (some true)
def r14_SameConsts.f (k : Nat) (l0 : List (S68)) (l1 : List (S68)) : Option (Bool) := if (l0.length : Int) = (l1.length : Int) then (r14_SameConsts.l0 k l0 l1 0) else (some false)
set_option maxHeartbeats 8000000 in
set_option maxRecDepth 100000 in
theorem r14_SameConsts.calls (k : Nat) (A0 : Option Addr) (c0 : Nat) (l0 : List (S68)) (A1 : Option Addr) (c1 : Nat) (l1 : List (S68)) (r : Bool) (w : World) (hr0 : Kd.C k68 w A0 l0.length l0) (hc0 : l0.length ≤ c0) (hr1 : Kd.C k68 w A1 l1.length l1) (hc1 : l1.length ≤ c1) (h : r14_SameConsts.f k l0 l1 = some r) :
  Calls Tryd.prog 26 #[.slice A0 l0.length c0, .slice A1 l1.length c1] w fun e w' => e = .returned (.bool r) ∧ Drawn0 w w' := by
 have hu68 := Tryd.underlying68
 have HR0 := zA hr0
 have HC0 := zA hc0
 clear hr0 hc0
 have HR1 := zA hr1
 have HC1 := zA hc1
 clear hr1 hc1
 have H : (if (l0.length : Int) = (l1.length : Int) then (r14_SameConsts.l0 k l0 l1 0) else (some false)) = some r := h
 clear h
 by_cases c3 : (l0.length : Int) = (l1.length : Int)
 ·rw [if_pos c3] at H
  have c3b0 : ((l0.length : Int) == (l1.length : Int)) = true := beq_iff_eq.mpr c3
  have c3b1 : ((l0.length : Int) != (l1.length : Int)) = false := bne_eq_false_iff_eq.mpr c3
  have c3b2 : (l0.length == l1.length) = true := by first | simpa using c3 | (simp at c3 ⊢; omega)
  clear c3
  have H' := zA H
  clear H
  go_enter Tryd.func26, Tryd.ntmps26
  go_wp2
  repeat (go_quiet (fail); try go_wp2)
  go_loopg [5] k (fun kq v5 w' => ∃ (x5_1 : Int), v5 = .int .i64 x5_1 ∧ Aside0 (r14_SameConsts.l0 kq l0 l1 x5_1 = some r) ∧ Aside0 (kq ≤ k) ∧ Drawn0 w w')
  case atStart => exact ⟨(0), (by first | rfl | (simp; done) | (simp [*]; done)), H', ⟨z5 _⟩, by repeat (first | exact z4 _ | apply z3)⟩
  case round =>
   clear H'
   try clear c1
   try clear c2
   try clear p2
   try clear c3
   try clear c3b0
   try clear c3b1
   try clear c3b2
   obtain ⟨x5_1, rfl, HA, HK1, ⟨m1, rfl⟩⟩ := hrel
   cases gk with
   | zero => exact absurd HA.out (by simp [r14_SameConsts.l0])
   | succ k1 =>
    have H := HA.out
    clear HA
    simp only [r14_SameConsts.l0] at H
    by_cases c4 : x5_1 < (l0.length : Int)
    ·rw [if_pos c4] at H
     have c4b0 : decide (x5_1 < (l0.length : Int)) = true := decide_eq_true c4
     clear c4
     by_cases c5 : 0 ≤ x5_1
     ·rw [if_pos c5] at H
      have c5b0 : decide (0 ≤ x5_1) = true := decide_eq_true c5
      clear c5
      by_cases c6 : x5_1 < (l1.length : Int)
      ·rw [if_pos c6] at H
       have c6b0 : decide (x5_1 < (l1.length : Int)) = true := decide_eq_true c6
       clear c6
       by_cases c7 : (!(((rd_T68 l0 x5_1).f0) == ((rd_T68 l1 x5_1).f0)) || (!(((rd_T68 l0 x5_1).f1) == ((rd_T68 l1 x5_1).f1)))) = true
       ·rw [if_pos c7] at H
        have c7b0 : (!(((rd_T68 l0 x5_1).f0) == ((rd_T68 l1 x5_1).f0)) || (!(((rd_T68 l0 x5_1).f1) == ((rd_T68 l1 x5_1).f1)))) = true := c7
        clear c7
        obtain rfl := zJ H
        have p283 : 0 ≤ (x5_1 : Int) := zO (by first | (with_reducible assumption) | assumption)
        have q283 : x5_1 < (l0.length : Int) := zO (by first | (with_reducible assumption) | assumption)
        obtain ⟨ad283, e283, hx283_0, hx283_1⟩ := at_T68 HR0.out x5_1 p283 q283
        cases e283
        replace p283 := eq_true p283
        replace q283 := eq_true q283
        have p284 : 0 ≤ (x5_1 : Int) := zO (by first | (with_reducible assumption) | assumption)
        have q284 : x5_1 < (l1.length : Int) := zO (by first | (with_reducible assumption) | assumption)
        obtain ⟨ad284, e284, hx284_0, hx284_1⟩ := at_T68 HR1.out x5_1 p284 q284
        cases e284
        replace p284 := eq_true p284
        replace q284 := eq_true q284
        go_wp2
        repeat (go_quiet (fail); try go_wp2)
        go_ret
        exact ⟨by first | rfl | (simp; done) | (simp [*]; done), by repeat (first | exact z4 _ | apply z3)⟩
       ·rw [if_neg c7] at H
        have c7b0 : (!(((rd_T68 l0 x5_1).f0) == ((rd_T68 l1 x5_1).f0)) || (!(((rd_T68 l0 x5_1).f1) == ((rd_T68 l1 x5_1).f1)))) = false := by simpa using c7
        clear c7
        have H' := zA H
        clear H
        have p283 : 0 ≤ (x5_1 : Int) := zO (by first | (with_reducible assumption) | assumption)
        have q283 : x5_1 < (l0.length : Int) := zO (by first | (with_reducible assumption) | assumption)
        obtain ⟨ad283, e283, hx283_0, hx283_1⟩ := at_T68 HR0.out x5_1 p283 q283
        cases e283
        replace p283 := eq_true p283
        replace q283 := eq_true q283
        have p284 : 0 ≤ (x5_1 : Int) := zO (by first | (with_reducible assumption) | assumption)
        have q284 : x5_1 < (l1.length : Int) := zO (by first | (with_reducible assumption) | assumption)
        obtain ⟨ad284, e284, hx284_0, hx284_1⟩ := at_T68 HR1.out x5_1 p284 q284
        cases e284
        replace p284 := eq_true p284
        replace q284 := eq_true q284
        go_wp2
        repeat (go_quiet (fail); try go_wp2)
        go_roundg k1
        case measure => have := HK1.out; omega
        case rel => exact ⟨(wrap64 (x5_1 + 1)), (by first | rfl | (simp; done) | (simp [*]; done)), H', ⟨by have := HK1.out; omega⟩, by repeat (first | exact z4 _ | apply z3)⟩
      ·rw [if_neg c6] at H
       exact absurd H (by simp)
     ·rw [if_neg c5] at H
      exact absurd H (by simp)
    ·rw [if_neg c4] at H
     have c4b0 : decide (x5_1 < (l0.length : Int)) = false := decide_eq_false c4
     clear c4
     obtain rfl := zJ H
     go_wp2
     repeat (go_quiet (fail); try go_wp2)
     go_ret
     exact ⟨by first | rfl | (simp; done) | (simp [*]; done), by repeat (first | exact z4 _ | apply z3)⟩
 ·rw [if_neg c3] at H
  have c3b0 : ((l0.length : Int) == (l1.length : Int)) = false := beq_eq_false_iff_ne.mpr c3
  have c3b1 : ((l0.length : Int) != (l1.length : Int)) = true := bne_iff_ne.mpr c3
  have c3b2 : (l0.length == l1.length) = false := by first | simpa using c3 | (simp at c3 ⊢; omega)
  obtain rfl := zJ H
  go_enter Tryd.func26, Tryd.ntmps26
  go_wp2
  repeat (go_quiet (fail); try go_wp2)
  go_ret
  exact ⟨by first | rfl | (simp; done) | (simp [*]; done), by repeat (first | exact z4 _ | apply z3)⟩

/-! ### r14_SameVars: function 27 -/
def r14_SameVars.l0 : Nat → List (S41) → List (S41) → Int → Option (Bool)
 | 0, _, _, _ => none
 | k + 1, x0, x1, x5 => if x5 < (x0.length : Int) then (if 0 ≤ x5 then (if x5 < (x1.length : Int) then (if (!((((rd_T41 x0 x5).f0).toList) == (((rd_T41 x1 x5).f0).toList)) || (!(((rd_T41 x0 x5).f1) == ((rd_T41 x1 x5).f1)) || (!(((rd_T41 x0 x5).f2) == ((rd_T41 x1 x5).f2)) || (!(((rd_T41 x0 x5).f3) == ((rd_T41 x1 x5).f3)) || (!(((rd_T41 x0 x5).f4) == ((rd_T41 x1 x5).f4))))))) = true then (some false) else (r14_SameVars.l0 k x0 x1 (wrap64 (x5 + 1)))) else (none)) else (none)) else (some true)
def r14_SameVars.f (k : Nat) (l0 : List (S41)) (l1 : List (S41)) : Option (Bool) := if (l0.length : Int) = (l1.length : Int) then (r14_SameVars.l0 k l0 l1 0) else (some false)
set_option maxHeartbeats 8000000 in
set_option maxRecDepth 100000 in
theorem r14_SameVars.calls (k : Nat) (A0 : Option Addr) (c0 : Nat) (l0 : List (S41)) (A1 : Option Addr) (c1 : Nat) (l1 : List (S41)) (r : Bool) (w : World) (hr0 : Kd.C k41 w A0 l0.length l0) (hc0 : l0.length ≤ c0) (hr1 : Kd.C k41 w A1 l1.length l1) (hc1 : l1.length ≤ c1) (h : r14_SameVars.f k l0 l1 = some r) :
  Calls Tryd.prog 27 #[.slice A0 l0.length c0, .slice A1 l1.length c1] w fun e w' => e = .returned (.bool r) ∧ Drawn0 w w' := by
 have hu41 := Tryd.underlying41
 have HR0 := zA hr0
 have HC0 := zA hc0
 clear hr0 hc0
 have HR1 := zA hr1
 have HC1 := zA hc1
 clear hr1 hc1
 have H : (if (l0.length : Int) = (l1.length : Int) then (r14_SameVars.l0 k l0 l1 0) else (some false)) = some r := h
 clear h
 by_cases c3 : (l0.length : Int) = (l1.length : Int)
 ·rw [if_pos c3] at H
  have c3b0 : ((l0.length : Int) == (l1.length : Int)) = true := beq_iff_eq.mpr c3
  have c3b1 : ((l0.length : Int) != (l1.length : Int)) = false := bne_eq_false_iff_eq.mpr c3
  have c3b2 : (l0.length == l1.length) = true := by first | simpa using c3 | (simp at c3 ⊢; omega)
  clear c3
  have H' := zA H
  clear H
  go_enter Tryd.func27, Tryd.ntmps27
  go_wp2
  repeat (go_quiet (fail); try go_wp2)
  go_loopg [5] k (fun kq v5 w' => ∃ (x5_1 : Int), v5 = .int .i64 x5_1 ∧ Aside0 (r14_SameVars.l0 kq l0 l1 x5_1 = some r) ∧ Aside0 (kq ≤ k) ∧ Drawn0 w w')
  case atStart => exact ⟨(0), (by first | rfl | (simp; done) | (simp [*]; done)), H', ⟨z5 _⟩, by repeat (first | exact z4 _ | apply z3)⟩
  case round =>
   clear H'
   try clear c1
   try clear c2
   try clear p2
   try clear c3
   try clear c3b0
   try clear c3b1
   try clear c3b2
   obtain ⟨x5_1, rfl, HA, HK1, ⟨m1, rfl⟩⟩ := hrel
   cases gk with
   | zero => exact absurd HA.out (by simp [r14_SameVars.l0])
   | succ k1 =>
    have H := HA.out
    clear HA
    simp only [r14_SameVars.l0] at H
    by_cases c4 : x5_1 < (l0.length : Int)
    ·rw [if_pos c4] at H
     have c4b0 : decide (x5_1 < (l0.length : Int)) = true := decide_eq_true c4
     clear c4
     by_cases c5 : 0 ≤ x5_1
     ·rw [if_pos c5] at H
      have c5b0 : decide (0 ≤ x5_1) = true := decide_eq_true c5
      clear c5
      by_cases c6 : x5_1 < (l1.length : Int)
      ·rw [if_pos c6] at H
       have c6b0 : decide (x5_1 < (l1.length : Int)) = true := decide_eq_true c6
       clear c6
       by_cases c7 : (!((((rd_T41 l0 x5_1).f0).toList) == (((rd_T41 l1 x5_1).f0).toList)) || (!(((rd_T41 l0 x5_1).f1) == ((rd_T41 l1 x5_1).f1)) || (!(((rd_T41 l0 x5_1).f2) == ((rd_T41 l1 x5_1).f2)) || (!(((rd_T41 l0 x5_1).f3) == ((rd_T41 l1 x5_1).f3)) || (!(((rd_T41 l0 x5_1).f4) == ((rd_T41 l1 x5_1).f4))))))) = true
       ·rw [if_pos c7] at H
        have c7b0 : (!((((rd_T41 l0 x5_1).f0).toList) == (((rd_T41 l1 x5_1).f0).toList)) || (!(((rd_T41 l0 x5_1).f1) == ((rd_T41 l1 x5_1).f1)) || (!(((rd_T41 l0 x5_1).f2) == ((rd_T41 l1 x5_1).f2)) || (!(((rd_T41 l0 x5_1).f3) == ((rd_T41 l1 x5_1).f3)) || (!(((rd_T41 l0 x5_1).f4) == ((rd_T41 l1 x5_1).f4))))))) = true := c7
        clear c7
        obtain rfl := zJ H
        have p285 : 0 ≤ (x5_1 : Int) := zO (by first | (with_reducible assumption) | assumption)
        have q285 : x5_1 < (l0.length : Int) := zO (by first | (with_reducible assumption) | assumption)
        obtain ⟨ad285, e285, hx285_0, hx285_1, hx285_2, hx285_3, hx285_4⟩ := at_T41 HR0.out x5_1 p285 q285
        cases e285
        replace p285 := eq_true p285
        replace q285 := eq_true q285
        have p286 : 0 ≤ (x5_1 : Int) := zO (by first | (with_reducible assumption) | assumption)
        have q286 : x5_1 < (l1.length : Int) := zO (by first | (with_reducible assumption) | assumption)
        obtain ⟨ad286, e286, hx286_0, hx286_1, hx286_2, hx286_3, hx286_4⟩ := at_T41 HR1.out x5_1 p286 q286
        cases e286
        replace p286 := eq_true p286
        replace q286 := eq_true q286
        go_wp2
        repeat (go_quiet (fail); try go_wp2)
        go_ret
        exact ⟨by first | rfl | (simp; done) | (simp [*]; done), by repeat (first | exact z4 _ | apply z3)⟩
       ·rw [if_neg c7] at H
        have c7b0 : (!((((rd_T41 l0 x5_1).f0).toList) == (((rd_T41 l1 x5_1).f0).toList)) || (!(((rd_T41 l0 x5_1).f1) == ((rd_T41 l1 x5_1).f1)) || (!(((rd_T41 l0 x5_1).f2) == ((rd_T41 l1 x5_1).f2)) || (!(((rd_T41 l0 x5_1).f3) == ((rd_T41 l1 x5_1).f3)) || (!(((rd_T41 l0 x5_1).f4) == ((rd_T41 l1 x5_1).f4))))))) = false := by simpa using c7
        clear c7
        have H' := zA H
        clear H
        have p285 : 0 ≤ (x5_1 : Int) := zO (by first | (with_reducible assumption) | assumption)
        have q285 : x5_1 < (l0.length : Int) := zO (by first | (with_reducible assumption) | assumption)
        obtain ⟨ad285, e285, hx285_0, hx285_1, hx285_2, hx285_3, hx285_4⟩ := at_T41 HR0.out x5_1 p285 q285
        cases e285
        replace p285 := eq_true p285
        replace q285 := eq_true q285
        have p286 : 0 ≤ (x5_1 : Int) := zO (by first | (with_reducible assumption) | assumption)
        have q286 : x5_1 < (l1.length : Int) := zO (by first | (with_reducible assumption) | assumption)
        obtain ⟨ad286, e286, hx286_0, hx286_1, hx286_2, hx286_3, hx286_4⟩ := at_T41 HR1.out x5_1 p286 q286
        cases e286
        replace p286 := eq_true p286
        replace q286 := eq_true q286
        go_wp2
        repeat (go_quiet (fail); try go_wp2)
        go_roundg k1
        case measure => have := HK1.out; omega
        case rel => exact ⟨(wrap64 (x5_1 + 1)), (by first | rfl | (simp; done) | (simp [*]; done)), H', ⟨by have := HK1.out; omega⟩, by repeat (first | exact z4 _ | apply z3)⟩
      ·rw [if_neg c6] at H
       exact absurd H (by simp)
     ·rw [if_neg c5] at H
      exact absurd H (by simp)
    ·rw [if_neg c4] at H
     have c4b0 : decide (x5_1 < (l0.length : Int)) = false := decide_eq_false c4
     clear c4
     obtain rfl := zJ H
     go_wp2
     repeat (go_quiet (fail); try go_wp2)
     go_ret
     exact ⟨by first | rfl | (simp; done) | (simp [*]; done), by repeat (first | exact z4 _ | apply z3)⟩
 ·rw [if_neg c3] at H
  have c3b0 : ((l0.length : Int) == (l1.length : Int)) = false := beq_eq_false_iff_ne.mpr c3
  have c3b1 : ((l0.length : Int) != (l1.length : Int)) = true := bne_iff_ne.mpr c3
  have c3b2 : (l0.length == l1.length) = false := by first | simpa using c3 | (simp at c3 ⊢; omega)
  obtain rfl := zJ H
  go_enter Tryd.func27, Tryd.ntmps27
  go_wp2
  repeat (go_quiet (fail); try go_wp2)
  go_ret
  exact ⟨by first | rfl | (simp; done) | (simp [*]; done), by repeat (first | exact z4 _ | apply z3)⟩

/-! ### r14_SameBlocks: function 28 -/
def r14_SameBlocks.l0 : Nat → List (S43) → List (S43) → Int → Option (Bool)
 | 0, _, _, _ => none
 | k + 1, x0, x1, x5 => if x5 < (x0.length : Int) then (if 0 ≤ x5 then (if x5 < (x1.length : Int) then (if (!((((rd_T43 x0 x5).f0).toList) == (((rd_T43 x1 x5).f0).toList)) || (!(((rd_T43 x0 x5).f1) == ((rd_T43 x1 x5).f1)))) = true then (some false) else (r14_SameBlocks.l0 k x0 x1 (wrap64 (x5 + 1)))) else (none)) else (none)) else (some true)
def r14_SameBlocks.f (k : Nat) (l0 : List (S43)) (l1 : List (S43)) : Option (Bool) := if (l0.length : Int) = (l1.length : Int) then (r14_SameBlocks.l0 k l0 l1 0) else (some false)
set_option maxHeartbeats 8000000 in
set_option maxRecDepth 100000 in
theorem r14_SameBlocks.calls (k : Nat) (A0 : Option Addr) (c0 : Nat) (l0 : List (S43)) (A1 : Option Addr) (c1 : Nat) (l1 : List (S43)) (r : Bool) (w : World) (hr0 : Kd.C k43 w A0 l0.length l0) (hc0 : l0.length ≤ c0) (hr1 : Kd.C k43 w A1 l1.length l1) (hc1 : l1.length ≤ c1) (h : r14_SameBlocks.f k l0 l1 = some r) :
  Calls Tryd.prog 28 #[.slice A0 l0.length c0, .slice A1 l1.length c1] w fun e w' => e = .returned (.bool r) ∧ Drawn0 w w' := by
 have hu43 := Tryd.underlying43
 have HR0 := zA hr0
 have HC0 := zA hc0
 clear hr0 hc0
 have HR1 := zA hr1
 have HC1 := zA hc1
 clear hr1 hc1
 have H : (if (l0.length : Int) = (l1.length : Int) then (r14_SameBlocks.l0 k l0 l1 0) else (some false)) = some r := h
 clear h
 by_cases c3 : (l0.length : Int) = (l1.length : Int)
 ·rw [if_pos c3] at H
  have c3b0 : ((l0.length : Int) == (l1.length : Int)) = true := beq_iff_eq.mpr c3
  have c3b1 : ((l0.length : Int) != (l1.length : Int)) = false := bne_eq_false_iff_eq.mpr c3
  have c3b2 : (l0.length == l1.length) = true := by first | simpa using c3 | (simp at c3 ⊢; omega)
  clear c3
  have H' := zA H
  clear H
  go_enter Tryd.func28, Tryd.ntmps28
  go_wp2
  repeat (go_quiet (fail); try go_wp2)
  go_loopg [5] k (fun kq v5 w' => ∃ (x5_1 : Int), v5 = .int .i64 x5_1 ∧ Aside0 (r14_SameBlocks.l0 kq l0 l1 x5_1 = some r) ∧ Aside0 (kq ≤ k) ∧ Drawn0 w w')
  case atStart => exact ⟨(0), (by first | rfl | (simp; done) | (simp [*]; done)), H', ⟨z5 _⟩, by repeat (first | exact z4 _ | apply z3)⟩
  case round =>
   clear H'
   try clear c1
   try clear c2
   try clear p2
   try clear c3
   try clear c3b0
   try clear c3b1
   try clear c3b2
   obtain ⟨x5_1, rfl, HA, HK1, ⟨m1, rfl⟩⟩ := hrel
   cases gk with
   | zero => exact absurd HA.out (by simp [r14_SameBlocks.l0])
   | succ k1 =>
    have H := HA.out
    clear HA
    simp only [r14_SameBlocks.l0] at H
    by_cases c4 : x5_1 < (l0.length : Int)
    ·rw [if_pos c4] at H
     have c4b0 : decide (x5_1 < (l0.length : Int)) = true := decide_eq_true c4
     clear c4
     by_cases c5 : 0 ≤ x5_1
     ·rw [if_pos c5] at H
      have c5b0 : decide (0 ≤ x5_1) = true := decide_eq_true c5
      clear c5
      by_cases c6 : x5_1 < (l1.length : Int)
      ·rw [if_pos c6] at H
       have c6b0 : decide (x5_1 < (l1.length : Int)) = true := decide_eq_true c6
       clear c6
       by_cases c7 : (!((((rd_T43 l0 x5_1).f0).toList) == (((rd_T43 l1 x5_1).f0).toList)) || (!(((rd_T43 l0 x5_1).f1) == ((rd_T43 l1 x5_1).f1)))) = true
       ·rw [if_pos c7] at H
        have c7b0 : (!((((rd_T43 l0 x5_1).f0).toList) == (((rd_T43 l1 x5_1).f0).toList)) || (!(((rd_T43 l0 x5_1).f1) == ((rd_T43 l1 x5_1).f1)))) = true := c7
        clear c7
        obtain rfl := zJ H
        have p287 : 0 ≤ (x5_1 : Int) := zO (by first | (with_reducible assumption) | assumption)
        have q287 : x5_1 < (l0.length : Int) := zO (by first | (with_reducible assumption) | assumption)
        obtain ⟨ad287, e287, hx287_0, hx287_1⟩ := at_T43 HR0.out x5_1 p287 q287
        cases e287
        replace p287 := eq_true p287
        replace q287 := eq_true q287
        have p288 : 0 ≤ (x5_1 : Int) := zO (by first | (with_reducible assumption) | assumption)
        have q288 : x5_1 < (l1.length : Int) := zO (by first | (with_reducible assumption) | assumption)
        obtain ⟨ad288, e288, hx288_0, hx288_1⟩ := at_T43 HR1.out x5_1 p288 q288
        cases e288
        replace p288 := eq_true p288
        replace q288 := eq_true q288
        go_wp2
        repeat (go_quiet (fail); try go_wp2)
        go_ret
        exact ⟨by first | rfl | (simp; done) | (simp [*]; done), by repeat (first | exact z4 _ | apply z3)⟩
       ·rw [if_neg c7] at H
        have c7b0 : (!((((rd_T43 l0 x5_1).f0).toList) == (((rd_T43 l1 x5_1).f0).toList)) || (!(((rd_T43 l0 x5_1).f1) == ((rd_T43 l1 x5_1).f1)))) = false := by simpa using c7
        clear c7
        have H' := zA H
        clear H
        have p287 : 0 ≤ (x5_1 : Int) := zO (by first | (with_reducible assumption) | assumption)
        have q287 : x5_1 < (l0.length : Int) := zO (by first | (with_reducible assumption) | assumption)
        obtain ⟨ad287, e287, hx287_0, hx287_1⟩ := at_T43 HR0.out x5_1 p287 q287
        cases e287
        replace p287 := eq_true p287
        replace q287 := eq_true q287
        have p288 : 0 ≤ (x5_1 : Int) := zO (by first | (with_reducible assumption) | assumption)
        have q288 : x5_1 < (l1.length : Int) := zO (by first | (with_reducible assumption) | assumption)
        obtain ⟨ad288, e288, hx288_0, hx288_1⟩ := at_T43 HR1.out x5_1 p288 q288
        cases e288
        replace p288 := eq_true p288
        replace q288 := eq_true q288
        go_wp2
        repeat (go_quiet (fail); try go_wp2)
        go_roundg k1
        case measure => have := HK1.out; omega
        case rel => exact ⟨(wrap64 (x5_1 + 1)), (by first | rfl | (simp; done) | (simp [*]; done)), H', ⟨by have := HK1.out; omega⟩, by repeat (first | exact z4 _ | apply z3)⟩
      ·rw [if_neg c6] at H
       exact absurd H (by simp)
     ·rw [if_neg c5] at H
      exact absurd H (by simp)
    ·rw [if_neg c4] at H
     have c4b0 : decide (x5_1 < (l0.length : Int)) = false := decide_eq_false c4
     clear c4
     obtain rfl := zJ H
     go_wp2
     repeat (go_quiet (fail); try go_wp2)
     go_ret
     exact ⟨by first | rfl | (simp; done) | (simp [*]; done), by repeat (first | exact z4 _ | apply z3)⟩
 ·rw [if_neg c3] at H
  have c3b0 : ((l0.length : Int) == (l1.length : Int)) = false := beq_eq_false_iff_ne.mpr c3
  have c3b1 : ((l0.length : Int) != (l1.length : Int)) = true := bne_iff_ne.mpr c3
  have c3b2 : (l0.length == l1.length) = false := by first | simpa using c3 | (simp at c3 ⊢; omega)
  obtain rfl := zJ H
  go_enter Tryd.func28, Tryd.ntmps28
  go_wp2
  repeat (go_quiet (fail); try go_wp2)
  go_ret
  exact ⟨by first | rfl | (simp; done) | (simp [*]; done), by repeat (first | exact z4 _ | apply z3)⟩

end Go.Proofs.YtdbfgfgbjheibaaDoor.PBx
end

section
/- Printed by a program of this session (wip/pg.py, over the print of the kit): functions, their Lean twins, and the proofs that the calls come to them; each under the conditions that it names. -/
namespace Go.Proofs.YtdbfgfgbjheibaaDoor.PBx
open Go.RowKit Go.Proofs.YtdbfgfgbjheibaaDoorW.PrintWords Go.Proofs.YtdbfgfgbjheibaaDoorW.PrintLast Go.Proofs.YtdbfgfgbjheibaaDoorW.PrintMore
attribute [local go_sem] max2_int min2_int max_two min_two max_three min_three max_four min_four   -- for this text's walks alone
set_option linter.unusedVariables false
set_option linter.unusedSimpArgs false

theorem eqA109 (d : Nat) (w : World) (x0 y0 : Int) (x1 y1 : Int) (x2 y2 : Int) :
  (Op.equalIn (d + 2) 109 (.agg #[.int .i64 x0, .int .i64 x1, .int .i64 x2]) (.agg #[.int .i64 y0, .int .i64 y1, .int .i64 y2])).run Tryd.prog w = .ok (x0 == y0 && (x1 == y1 && (x2 == y2))) w := by
 refine eqA_of Tryd.underlying109 (by kernel_rfl) ?_
 refine eqf_cons (by rfl) (by go_simp; rfl) (by go_simp; rfl) (by go_simp) ?_
 refine eqf_cons (by rfl) (by go_simp; rfl) (by go_simp; rfl) (by go_simp) ?_
 exact eqf_last (by rfl) (by go_simp; rfl) (by go_simp; rfl) (by go_simp)
end Go.Proofs.YtdbfgfgbjheibaaDoor.PBx
end
