/- Printed by a program of this session (wip/pg.py, over the print of the kit): functions, their Lean twins, and the proofs that the calls come to them; each under the conditions that it names. -/
import Derived.Maps.OwnRows
import Derived.Maps.AppendAt
import Derived.Deep.RegionLaw
import Derived.Test.YtnfnhgikhkpidaaProg
import Derived.Below
import Derived.Deep.Draws
import Derived.Deep.AppendLies
import Derived.OwnWalk
import Derived.Laws.BytesArg
import Derived.Laws.MakeOwn
import Derived.Laws.OwnMore
import Derived.Deep.OwnRows
import Derived.Tactics
import Derived.Lib.ConvBytes
import Derived.Laws.Slices
import Derived.WalkKit
import Derived.KernelRfl
import Derived.RowKit3
import Derived.Deep.LoopGhost
import Derived.Deep.QuietTactic
import Derived.BigQuiet
import Derived.WideLaws
import Derived.Deep.DeepCutAuto
import Derived.Deep.CutBlock
import Derived.Deep.RegionHeld3
import Derived.Laws.Rows
import Derived.Lib.AppendStr
import Derived.ArgAppend
import Derived.Laws.IdiomCopy
import Derived.OrdersHeld
import Derived.Laws.BitsLemmas
import Derived.RowKit
import Derived.Test.YtnfnhgikhkpidaaZPowerPathsaa
import Derived.Test.YtnfnhgikhkpidaaZPowerPathsab
section
/- power.unlike walked: wires between points, each pair once. -/
namespace Go.Proofs.Ytnfnhgikhkpidaa.Given
open Go Go.RowKit Go.Maps Go.Proofs.Ytnfnhgikhkpidaa Go.Proofs.Ytnfnhgikhkpidaa.PPw Go.Proofs.YtnfnhgikhkpidaaW.PrintWords Go.Proofs.YtnfnhgikhkpidaaW.PrintLast Go.Proofs.YtnfnhgikhkpidaaW.PrintMore
open Go.Proofs.Ytnfnhgikhkpidaa.Red (Ed)
set_option linter.unusedVariables false
set_option linter.unusedSimpArgs false
abbrev E66 := S66
def ed (x : E66) : Ed := (x.f0, x.f1)
def de (p : Ed) : E66 := ⟨p.1, p.2⟩
theorem de_ed (x : E66) : de (ed x) = x := rfl
theorem map_de_ed : ∀ l : List E66, (l.map ed).map de = l
  | [] => rfl
  | x :: l => by rw [List.map_cons, List.map_cons, map_de_ed l, de_ed]
instance (n : Int) : Decidable (in64 n) := inferInstanceAs (Decidable (_ ∧ _))
/-- What stands between points, each pair once: at most 1000, of numbers that int64 holds. -/
def okW (l : List E66) : Prop := l.length ≤ 1000 ∧ ∀ x ∈ l, in64 x.f0 ∧ in64 x.f1
instance (l : List E66) : Decidable (okW l) := inferInstanceAs (Decidable (_ ∧ _))
def power_unlike.f (l : List E66) : Option (List E66) := if okW l then some ((Red.unlikeF [] (l.map ed)).map de) else none
structure UIn (w wr : World) (b n : Nat) (D : DD) (S : List Ed) (v : Value) (out : List E66) : Prop where
  map : Me wr b n D
  ok : EOk D S
  row : Kd.R k66 66 wr w.heap.size (fun _ => True) v out
  below : Below w.heap.size w wr
theorem Me.lt {w : World} {b n : Nat} {D : DD} (h : Me w b n D) : b < w.heap.size := World.ownsMap.lt h
/-- The slice's own block is no map. -/
theorem Me.apart {w : World} {b n : Nat} {D : DD} (h : Me w b n D) {base : Nat} {v : Value} {out : List E66} (hr : Kd.R k66 66 w base (fun _ => True) v out) : some b ≠ v.ownBlock := fun e => by
  obtain ⟨cells, hc⟩ := Kd.R_typed hr b e.symm
  obtain ⟨es, clock, hb, _⟩ := h
  rw [hb] at hc
  cases hc
theorem R_map {α : Type} {d : Kd α} {q : Nat} {w w1 : World} {base b : Nat} {v : Value} {out : List α} (hm : ∃ es clock, w.heap[b]? = some (.map es clock)) (hr : Kd.R d q w base (fun _ => True) v out) (hg : w.grownBy w1 (some b)) : Kd.R d q w1 base (fun _ => True) v out :=
  Kd.R_mono (Kd.R_move (Kd.R_bound hr) (fun k hk => hg.block k hk.2.2.1 (fun he => by
    obtain ⟨_, _, _, q, _, cells, hc⟩ := hk
    obtain ⟨es, clock, hb⟩ := hm
    injection he with he
    rw [he, hb] at hc
    cases hc))) (fun _ _ => trivial)
theorem Me.map {w : World} {b n : Nat} {D : DD} (h : Me w b n D) : ∃ es clock, w.heap[b]? = some (.map es clock) := by
  obtain ⟨es, clock, hb, _⟩ := h
  exact ⟨es, clock, hb⟩
theorem wrapEq (x : Int) : IntKind.i64.wrap x = wrap64 x := by unfold wrap64; rw [IntKind.wrap_i64]
theorem w64c (n : Nat) (h : n ≤ 100000) : wrap64 ((n : Int) + 1) = (n : Int) + 1 := by unfold wrap64; omega
set_option maxHeartbeats 4000000 in
set_option maxRecDepth 100000 in
theorem power_unlike.calls (A0 : Option Addr) (c0 : Nat) (l : List E66) (r : List E66) (w : World) (h0 : Kd.C k66 w A0 l.length l) (hc0 : l.length ≤ c0) (h : power_unlike.f l = some r) :
    Calls Try.prog 30 #[.slice A0 l.length c0] w fun e w' => ∃ v0_ : Value, e = .returned v0_ ∧ Kd.R k66 66 w' w.heap.size (fun _ => True) v0_ r ∧ Below w.heap.size w w' := by
  unfold power_unlike.f at h
  obtain ⟨hok, h⟩ : okW l ∧ (Red.unlikeF [] (l.map ed)).map de = r := by
    split at h
    · rename_i hok
      exact ⟨hok, Option.some.inj h⟩
    · cases h
  obtain ⟨hlen, hwf⟩ := hok
  obtain ⟨W, hW⟩ : ∃ W, W = l.map ed := ⟨_, rfl⟩
  have hWl : W.length = l.length := by rw [hW, List.length_map]
  rw [← hW] at h
  obtain ⟨Z, hZ⟩ : ∃ Z, Red.unlikeF [] W = Z := ⟨_, rfl⟩
  rw [hZ] at h
  have hZl : Red.unlikeF [] W = Z := hZ
  have HR := Aside0.mk h
  have HWs := Aside0.mk hW
  have HZ := Aside0.mk (show ([] : List E66).map ed ++ Red.unlikeF [] (W.drop 0) = Z by rw [List.drop_zero]; exact hZ)
  have hmm := @run_makeMap Try.prog
  have H0 := Aside0.mk h0
  have HW := Aside0.mk hwf
  have HIN := Aside0.mk (show UIn w (w.alloc (.map #[] 0)) w.heap.size 0 (.map []) [] (.slice none 0 0) [] from ⟨World.ownsMap_made _ _ _ _, EOk.nil, Kd.R_nil _ _ _ _ _, (Below.refl _ _).alloc (Nat.le_refl _) _⟩)
  clear h0 hwf hW h hZ
  go_enter Try.func30, Try.ntmps30
  go_wp2_with fail
  clear hmm
  go_loopw [4, 10] (fun v iv wr => ∃ (i : Nat) (S : List Ed) (D : DD) (out : List E66), iv = .int .i64 (i : Int) ∧ i ≤ l.length ∧ S.length = i ∧ Aside0 (UIn w wr w.heap.size i D S v out) ∧ Aside0 (out.map ed ++ Red.unlikeF S (W.drop i) = Z)) (fun _ iv _ => l.length - (intOf iv).toNat)
  case atStart => exact ⟨0, [], _, [], rfl, Nat.zero_le _, rfl, HIN, HZ⟩
  case round =>
    clear HIN HZ
    obtain ⟨i, S, D, out, rfl, hi, hS, HIN, HZ⟩ := hrel
    by_cases hlt : i < l.length
    rotate_left
    · have HE := Aside0.mk (show out = r by
        have hz := HZ.out
        rw [List.drop_eq_nil_of_le (by omega)] at hz
        simp only [Red.unlikeF, List.append_nil] at hz
        rw [← HR.out, ← hz, map_de_ed])
      go_wp2_with fail
      go_ret
      exact ⟨_, rfl, HE.out ▸ HIN.out.row, HIN.out.below⟩
    · have hx : rd_T66 l (i : Int) = l[i] := by
        unfold rd_T66
        rw [Int.toNat_natCast, List.getD_eq_getElem?_getD, List.getElem?_eq_getElem hlt]; rfl
      obtain ⟨ad, e0, q0, q1⟩ := at_T66 (Kd.C_below H0.out HIN.out.below) (i : Int) (by omega) (by omega)
      rw [hx] at q0 q1
      simp only [Int.toNat_natCast] at q0 q1
      have hwx := HW.out l[i] (List.getElem_mem hlt)
      have hdrop : W.drop i = ed l[i] :: W.drop (i + 1) := by
        rw [HWs.out, ← List.map_drop, List.drop_eq_getElem_cons hlt, List.map_cons, List.map_drop]
      have hz := HZ.out
      rw [hdrop] at hz
      have HZ2 := Aside0.mk hz
      clear HZ hz hdrop
      generalize l[i] = x at q0 q1 hwx HZ2
      subst e0
      have hz := heap_alloc_new wr (.cells #[.int .i64 0, .int .i64 0] 66)
      have hg7 := setRow_heap _ _ _ #[.int .i64 x.f0, .int .i64 x.f1] _ _ hz
      have hB7 := below_setRow ((Below.refl wr.heap.size wr).alloc (Nat.le_refl _) (.cells #[.int .i64 0, .int .i64 0] 66)) (Nat.le_refl wr.heap.size) #[.int .i64 x.f0, .int .i64 x.f1]
      have HZ7 := Aside0.mk hz
      have HB7 := Aside0.mk hB7
      have HM7 := Aside0.mk (ownsMap_heap HIN.out.map (hB7.block _ HIN.out.map.lt))
      have hi2 : (Try.prog.info? 66).map (·.size) = some 2 := by kernel_rfl
      have r0 := (blk_cell hg7 0).trans rfl
      have r1 := (blk_cell hg7 1).trans rfl
      have HGR := Aside0.mk hg7
      have hl := lookE HM7.out HIN.out.ok (p := ed x) hwx
      have HWX := Aside0.mk hwx
      clear hz hg7 hB7 hwx
      have HBw := Aside0.mk (HIN.out.below.trans (HB7.out.mono HIN.out.below.size))
      have HRw := Aside0.mk (Kd.R_step HIN.out.row (fun k _ hk => HB7.out.block k hk))
      have HOL := Aside0.mk (show out.length ≤ 1000 by
        have h1 := congrArg List.length HZ2.out
        have h2 := Red.unlike_len W []
        rw [hZl] at h2
        simp only [List.length_append, List.length_map] at h1
        omega)
      have hl2 : (Instr.lookup 91 (.map (some w.heap.size)) (.agg #[.int .i64 x.f0, .int .i64 x.f1]) false).run Try.prog _ = .ok (.int .i64 (S.count (ed x))) _ := hl
      clear hl
      by_cases hin : S.count (ed x) = 0
      · have hmem : ed x ∉ S := fun h => by have := List.count_pos_iff.2 h; omega
        rw [hin] at hl2
        rw [show ((0 : Nat) : Int) = 0 from rfl] at hl2
        go_wp2_with (first | ((with_reducible refine gate_store (t := 66) (p := 6) (v := .tmp 13) rfl ?_); refine wpList_store_row rfl 66 (.tmp 6) (.tmp 13) rfl wr.heap.size #[.int .i64 x.f0, .int .i64 x.f1] rfl rfl 66 _ HZ7.out (by rw [hi2]; rfl) rfl (by kernel_rfl) ?_; generalize hW7 : (wr.alloc (.cells #[.int .i64 0, .int .i64 0] 66)).setRow wr.heap.size #[.int .i64 x.f0, .int .i64 x.f1] = w7 at hl2 r0 r1 HBw HRw HM7 HGR ⊢; clear hW7) | ((with_reducible refine gate_builtin (b := .append) (xs := #[.tmp 25, .tmp 27]) rfl ?_); at_builtin; refine Kd.R_append k66 (w0 := w) w.heap.size rfl (.tmp 25) (.tmp 27) 64 66 (.agg #[(.int .i64 0), (.int .i64 0)]) 16 rfl Try.underlying64 info66 rfl (by decide) (by omega) u4 out x [.int .i64 x.f0, .int .i64 x.f1] (fun _ => True) (fun _ => False) rfl rfl ?aP (fun _ hk => hk.elim) ?aF ?aO ?aB ?aS ?aL ?_; (case aP => exact k66_mkM _ _ _ x); (case aB => exact HBw.out); (case aF => exact (fun _ _ => trivial)); (case aO => exact HRw.out); (case aS => exact HBw.out.size); (case aL => have := HOL.out; omega); intro v8 w8 ho hb hg hat; have HO8 := Aside0.mk ho; have HB8 := Aside0.mk hb; have HG8 := Aside0.mk hg; clear ho hb hg hat))
        clear hl2 q0 q1 r0 r1
        have HM8 := Aside0.mk (ownsMap_heap HM7.out (HG8.out.block _ (Me.lt HM7.out) (Me.apart HM7.out HRw.out)))
        have HR8 := HO8
        have HGT := Aside0.mk ((HG8.out.block _ (blk_lt HGR.out) (fun e => absurd (Kd.R_lt HIN.out.row _ e.symm) (Nat.lt_irrefl _))).trans HGR.out)
        clear HG8
        have HG8 := HGT
        clear HGT
        obtain ⟨v0, st, w1, e1, g1, hm1, l1, w3, D3, e3, m3, ok3, g3⟩ := entryE (w := w8.drew) (show Me w8.drew _ _ _ from HM8.out) (by omega) (by omega) HIN.out.ok (p := ed x) HWX.out
        have l0 : (Instr.lookup 91 (.map (some w.heap.size)) (.agg #[.int .i64 x.f0, .int .i64 x.f1]) false).run Try.prog w8.drew = .ok (.int .i64 (S.count (ed x))) w8.drew := lookE (show Me w8.drew _ _ _ from HM8.out) HIN.out.ok (p := ed x) HWX.out
        replace e1 : (Instr.mapEntry 91 (.map (some w.heap.size)) (.agg #[.int .i64 x.f0, .int .i64 x.f1])).run Try.prog w8.drew = .ok (.tuple #[v0, .int .i64 st]) w1 := e1
        replace l1 : (Instr.lookup 91 (.map (some w.heap.size)) (.agg #[.int .i64 x.f0, .int .i64 x.f1]) false).run Try.prog w1 = .ok (.int .i64 (S.count (ed x))) w1 := l1
        have hcc : S.count (ed x) ≤ S.length := List.count_le_length
        have hwr : IntKind.i64.wrap ((S.count (ed x) : Int) + 1) = (S.count (ed x) : Int) + 1 := (wrapEq _).trans (w64c _ (by omega))
        have s0 : w8.drew.cell? ⟨wr.heap.size, 0, none⟩ = some (.int .i64 x.f0) := (blk_cell HG8.out 0).trans rfl
        have s1 : w8.drew.cell? ⟨wr.heap.size, 1, none⟩ = some (.int .i64 x.f1) := (blk_cell HG8.out 1).trans rfl
        have HEND := Aside0.mk (show UIn w w3 w.heap.size (i + 1) D3 (ed x :: S) v8 (out ++ [x]) from ⟨m3, ok3, R_map hm1 (R_map (w := w8.drew) (Me.map HM8.out) (show Kd.R k66 66 w8.drew w.heap.size (fun _ => True) v8 (out ++ [x]) from HR8.out) g1) g3, (HB8.out.drew.grown g1 HB8.out.size (fun k hk => by injection hk with hk; omega)).grown g3 (Nat.le_trans HB8.out.size g1.size) (fun k hk => by injection hk with hk; omega)⟩)
        have HZ3 := Aside0.mk (show List.map ed (out ++ [x]) ++ Red.unlikeF (ed x :: S) (W.drop (i + 1)) = Z from by have hz := HZ2.out; rw [Red.unlikeF, if_pos (.inl hmem)] at hz; rw [List.map_append, List.append_assoc]; exact hz)
        generalize (S.count (ed x) : Int) = c at e1 l1 e3 l0 hwr
        clear m3 ok3 g1 g3 hcc hm1
        go_region
        clear e1 l1 e3 l0 hwr s0 s1
        go_wp2_with fail
        go_roundw
        case rel => exact ⟨i + 1, ed x :: S, D3, out ++ [x], by push_cast; rfl, by omega, by simp [hS], HEND, HZ3⟩
        case measure => simp [intOf]; omega
      · have hmem : ed x ∈ S := List.count_pos_iff.1 (Nat.pos_of_ne_zero hin)
        have hc0 : ((S.count (ed x) : Int) == 0) = false := beq_eq_false_iff_ne.mpr (by omega)
        by_cases hab : x.f0 = x.f1
        · have hab2 : (x.f0 == x.f1) = true := beq_iff_eq.mpr hab
          have HAB := Aside0.mk hab
          clear hab
          generalize (S.count (ed x) : Int) = c at hl2 hc0
          go_wp2_with (first | ((with_reducible refine gate_store (t := 66) (p := 6) (v := .tmp 13) rfl ?_); refine wpList_store_row rfl 66 (.tmp 6) (.tmp 13) rfl wr.heap.size #[.int .i64 x.f0, .int .i64 x.f1] rfl rfl 66 _ HZ7.out (by rw [hi2]; rfl) rfl (by kernel_rfl) ?_; generalize hW7 : (wr.alloc (.cells #[.int .i64 0, .int .i64 0] 66)).setRow wr.heap.size #[.int .i64 x.f0, .int .i64 x.f1] = w7 at hl2 r0 r1 HBw HRw HM7 HGR ⊢; clear hW7) | ((with_reducible refine gate_builtin (b := .append) (xs := #[.tmp 25, .tmp 27]) rfl ?_); at_builtin; refine Kd.R_append k66 (w0 := w) w.heap.size rfl (.tmp 25) (.tmp 27) 64 66 (.agg #[(.int .i64 0), (.int .i64 0)]) 16 rfl Try.underlying64 info66 rfl (by decide) (by omega) u4 out x [.int .i64 x.f0, .int .i64 x.f1] (fun _ => True) (fun _ => False) rfl rfl ?aP (fun _ hk => hk.elim) ?aF ?aO ?aB ?aS ?aL ?_; (case aP => exact k66_mkM _ _ _ x); (case aB => exact HBw.out); (case aF => exact (fun _ _ => trivial)); (case aO => exact HRw.out); (case aS => exact HBw.out.size); (case aL => have := HOL.out; omega); intro v8 w8 ho hb hg hat; have HO8 := Aside0.mk ho; have HB8 := Aside0.mk hb; have HG8 := Aside0.mk hg; clear ho hb hg hat))
          clear hl2 q0 q1 r0 r1 hc0 hab2
          have HM8 := Aside0.mk (ownsMap_heap HM7.out (HG8.out.block _ (Me.lt HM7.out) (Me.apart HM7.out HRw.out)))
          have HR8 := HO8
          have HGT := Aside0.mk ((HG8.out.block _ (blk_lt HGR.out) (fun e => absurd (Kd.R_lt HIN.out.row _ e.symm) (Nat.lt_irrefl _))).trans HGR.out)
          clear HG8
          have HG8 := HGT
          clear HGT
          obtain ⟨v0, st, w1, e1, g1, hm1, l1, w3, D3, e3, m3, ok3, g3⟩ := entryE (w := w8.drew) (show Me w8.drew _ _ _ from HM8.out) (by omega) (by omega) HIN.out.ok (p := ed x) HWX.out
          have l0 : (Instr.lookup 91 (.map (some w.heap.size)) (.agg #[.int .i64 x.f0, .int .i64 x.f1]) false).run Try.prog w8.drew = .ok (.int .i64 (S.count (ed x))) w8.drew := lookE (show Me w8.drew _ _ _ from HM8.out) HIN.out.ok (p := ed x) HWX.out
          replace e1 : (Instr.mapEntry 91 (.map (some w.heap.size)) (.agg #[.int .i64 x.f0, .int .i64 x.f1])).run Try.prog w8.drew = .ok (.tuple #[v0, .int .i64 st]) w1 := e1
          replace l1 : (Instr.lookup 91 (.map (some w.heap.size)) (.agg #[.int .i64 x.f0, .int .i64 x.f1]) false).run Try.prog w1 = .ok (.int .i64 (S.count (ed x))) w1 := l1
          have hcc : S.count (ed x) ≤ S.length := List.count_le_length
          have hwr : IntKind.i64.wrap ((S.count (ed x) : Int) + 1) = (S.count (ed x) : Int) + 1 := (wrapEq _).trans (w64c _ (by omega))
          have s0 : w8.drew.cell? ⟨wr.heap.size, 0, none⟩ = some (.int .i64 x.f0) := (blk_cell HG8.out 0).trans rfl
          have s1 : w8.drew.cell? ⟨wr.heap.size, 1, none⟩ = some (.int .i64 x.f1) := (blk_cell HG8.out 1).trans rfl
          have HEND := Aside0.mk (show UIn w w3 w.heap.size (i + 1) D3 (ed x :: S) v8 (out ++ [x]) from ⟨m3, ok3, R_map hm1 (R_map (w := w8.drew) (Me.map HM8.out) (show Kd.R k66 66 w8.drew w.heap.size (fun _ => True) v8 (out ++ [x]) from HR8.out) g1) g3, (HB8.out.drew.grown g1 HB8.out.size (fun k hk => by injection hk with hk; omega)).grown g3 (Nat.le_trans HB8.out.size g1.size) (fun k hk => by injection hk with hk; omega)⟩)
          have HZ3 := Aside0.mk (show List.map ed (out ++ [x]) ++ Red.unlikeF (ed x :: S) (W.drop (i + 1)) = Z from by have hz := HZ2.out; rw [Red.unlikeF, if_pos (.inr HAB.out)] at hz; rw [List.map_append, List.append_assoc]; exact hz)
          generalize (S.count (ed x) : Int) = c at e1 l1 e3 l0 hwr
          clear m3 ok3 g1 g3 hcc hm1
          go_region
          clear e1 l1 e3 l0 hwr s0 s1
          go_wp2_with fail
          go_roundw
          case rel => exact ⟨i + 1, ed x :: S, D3, out ++ [x], by push_cast; rfl, by omega, by simp [hS], HEND, HZ3⟩
          case measure => simp [intOf]; omega
        · have hab2 : (x.f0 == x.f1) = false := beq_eq_false_iff_ne.mpr hab
          have HAB := Aside0.mk hab
          clear hab
          generalize (S.count (ed x) : Int) = c at hl2 hc0
          go_wp2_with (first | ((with_reducible refine gate_store (t := 66) (p := 6) (v := .tmp 13) rfl ?_); refine wpList_store_row rfl 66 (.tmp 6) (.tmp 13) rfl wr.heap.size #[.int .i64 x.f0, .int .i64 x.f1] rfl rfl 66 _ HZ7.out (by rw [hi2]; rfl) rfl (by kernel_rfl) ?_; generalize hW7 : (wr.alloc (.cells #[.int .i64 0, .int .i64 0] 66)).setRow wr.heap.size #[.int .i64 x.f0, .int .i64 x.f1] = w7 at hl2 r0 r1 HBw HRw HM7 HGR ⊢; clear hW7))
          clear hl2 q0 q1 r0 r1 hc0 hab2
          have HM8 := HM7
          have HR8 := HRw
          have HG8 := HGR
          have HB8 := HBw
          obtain ⟨v0, st, w1, e1, g1, hm1, l1, w3, D3, e3, m3, ok3, g3⟩ := entryE (w := w7.drew) (show Me w7.drew _ _ _ from HM8.out) (by omega) (by omega) HIN.out.ok (p := ed x) HWX.out
          have l0 : (Instr.lookup 91 (.map (some w.heap.size)) (.agg #[.int .i64 x.f0, .int .i64 x.f1]) false).run Try.prog w7.drew = .ok (.int .i64 (S.count (ed x))) w7.drew := lookE (show Me w7.drew _ _ _ from HM8.out) HIN.out.ok (p := ed x) HWX.out
          replace e1 : (Instr.mapEntry 91 (.map (some w.heap.size)) (.agg #[.int .i64 x.f0, .int .i64 x.f1])).run Try.prog w7.drew = .ok (.tuple #[v0, .int .i64 st]) w1 := e1
          replace l1 : (Instr.lookup 91 (.map (some w.heap.size)) (.agg #[.int .i64 x.f0, .int .i64 x.f1]) false).run Try.prog w1 = .ok (.int .i64 (S.count (ed x))) w1 := l1
          have hcc : S.count (ed x) ≤ S.length := List.count_le_length
          have hwr : IntKind.i64.wrap ((S.count (ed x) : Int) + 1) = (S.count (ed x) : Int) + 1 := (wrapEq _).trans (w64c _ (by omega))
          have s0 : w7.drew.cell? ⟨wr.heap.size, 0, none⟩ = some (.int .i64 x.f0) := (blk_cell HG8.out 0).trans rfl
          have s1 : w7.drew.cell? ⟨wr.heap.size, 1, none⟩ = some (.int .i64 x.f1) := (blk_cell HG8.out 1).trans rfl
          have HEND := Aside0.mk (show UIn w w3 w.heap.size (i + 1) D3 (ed x :: S) u4 (out) from ⟨m3, ok3, R_map hm1 (R_map (w := w7.drew) (Me.map HM8.out) (show Kd.R k66 66 w7.drew w.heap.size (fun _ => True) u4 (out) from HR8.out) g1) g3, (HB8.out.drew.grown g1 HB8.out.size (fun k hk => by injection hk with hk; omega)).grown g3 (Nat.le_trans HB8.out.size g1.size) (fun k hk => by injection hk with hk; omega)⟩)
          have HZ3 := Aside0.mk (show List.map ed (out) ++ Red.unlikeF (ed x :: S) (W.drop (i + 1)) = Z from by have hz := HZ2.out; rw [Red.unlikeF, if_neg (fun h => h.elim (fun h => h hmem) (fun h => HAB.out h))] at hz; exact hz)
          generalize (S.count (ed x) : Int) = c at e1 l1 e3 l0 hwr
          clear m3 ok3 g1 g3 hcc hm1
          go_region
          clear e1 l1 e3 l0 hwr s0 s1
          go_wp2_with fail
          go_roundw
          case rel => exact ⟨i + 1, ed x :: S, D3, out, by push_cast; rfl, by omega, by simp [hS], HEND, HZ3⟩
          case measure => simp [intOf]; omega
end Go.Proofs.Ytnfnhgikhkpidaa.Given
end

section
/- A map of slices of numbers: its look-up in any world that holds it, and one 'm[k] = append(m[k], i)' prepared: what each operation comes to. -/
namespace Go
open Go.ChangeShapes Go.WideShapes Go.MapKept Go.ChangeMaps Go.WideElems Go.RowKit
open Go.Maps (Keyed)
section
variable {H : Type} {P : Program} {k : TypeId} {w w1 : World} {base : Nat} {e : TypeId} {q : IntKind} {b n : Nat} {D : DataW H}
theorem lookup_same {R : Value → Option (DataW H × List MemPlace)} {t et : TypeId} (K : Keyed P k) (ht : P.underlying t = some (.map k et)) {z : Value} (hz : ∀ u : World, (zeroValue et).run P u = .ok z u) {es : Array MapEntry} {clock : Nat} (F : Fit P k R es clock)
    (hb : w.heap[b]? = some (.map es clock)) (hb1 : w1.heap[b]? = some (.map es clock)) {key : Value} {kl : Lit} (hkey : keyOf P k key = some kl) {v : Value} (h : (Instr.lookup t (.map (some b)) key false).run P w = .ok v w) : (Instr.lookup t (.map (some b)) key false).run P w1 = .ok v w1 := by
  obtain ⟨_, _, s3⟩ := F.stamped
  have run0 : ∀ u : World, u.heap[b]? = some (.map es clock) → (Instr.findKey k key es.toList).run P u = .ok none u → (Instr.lookup t (.map (some b)) key false).run P u = .ok z u := fun u hu hf => by
    simp [Instr.lookup, run_underlying ht, MapKept.run_getObj_map hu, K.check u es.isEmpty hkey, hf, hz, Result.andThen]
  have run1 : ∀ (u : World) (j : Nat) (x : Value), u.heap[b]? = some (.map es clock) → (Instr.findKey k key es.toList).run P u = .ok (some (j, x)) u → (Instr.lookup t (.map (some b)) key false).run P u = .ok x u := fun u j x hu hf => by
    simp [Instr.lookup, run_underlying ht, MapKept.run_getObj_map hu, K.check u es.isEmpty hkey, hf, Result.andThen]
  rcases K.find w hkey es.toList F.keys with ⟨h1, h2⟩ | ⟨j, e0, h1, h2, h3⟩ <;> rcases K.find w1 hkey es.toList F.keys with ⟨g1, g2⟩ | ⟨j', e1, g1, g2, g3⟩
  · rw [run0 w hb h1] at h
    injection h with h
    rw [run0 w1 hb1 g1, h]
  · exact absurd g3 (h2 e1 (List.mem_of_getElem? g2))
  · exact absurd h3 (g2 e0 (List.mem_of_getElem? h2))
  · have hj : j < (es.toList.map (·.key)).length := by
      rw [List.length_map]
      exact (List.getElem?_eq_some_iff.1 h2).1
    have hjj : j = j' := (List.getElem?_inj hj s3).1 (by rw [List.getElem?_map, List.getElem?_map, h2, g2, Option.map_some, Option.map_some, h3, g3])
    subst hjj
    rw [h2] at g2
    injection g2 with g2
    subst g2
    rw [run1 w j _ hb h1] at h
    injection h with h
    rw [run1 w1 j _ hb1 g1, h]
theorem World.ownsGroups.below (h : w.ownsGroups P k base e q b n D) (hB : Below w.heap.size w w1) : w1.ownsGroups P k base e q b n D := by
  have hg : w.grownBy w1 none := ⟨hB.os, hB.tape, hB.output, hB.size, fun i hi _ => hB.block i hi⟩
  have hrow : ∀ v : Value, v.ownBlock = none ∨ v.ownBlock ≠ none := fun v => by
    cases v.ownBlock
    · exact .inl rfl
    · exact .inr (by simp)
  obtain ⟨es, clock, hb, F, hs, rfl, hbb, hlen, hap⟩ := h
  have hblt : b < w.heap.size := (Array.getElem?_eq_some_iff.1 hb).1
  have hst : ∀ x ∈ es.toList, ∀ z, rowElem (H := H) w base e q x.val = some z → rowElem w1 base e q x.val = some z := fun x hx z hz => by
    obtain ⟨zs, ho, rfl⟩ := rowElem_inv hz
    exact rowElem_mk (ho.kept hg (hrow _))
  obtain ⟨F1, hmap, _⟩ := F.stay hst
  refine ⟨es, clock, (hB.block b hblt).trans hb, F1, hs, by rw [hmap], hbb, fun x hx zs ho => ?_, hap⟩
  obtain ⟨y, hy⟩ := F.reads x hx
  obtain ⟨z, hz, _⟩ := rd_val hy
  obtain ⟨zs0, ho0, _⟩ := rowElem_inv hz
  rw [ho.unique (ho0.kept hg (hrow _))]
  exact hlen x hx zs0 ho0
/-- append, as one step of a region that draws, where its run is known. -/
theorem step_append_eq {P : Program} {ops : Array Oper} {o : Oper} {a : Act} {w w' : World} {K : Act → World → Prop} {Q : Exit → Act → World → Prop} {E : Prop}
    (hg : o.guard = none) (s x : Operand) (t : TypeId) (hop : o.op = Op.call { callee := Callee.builtin Builtin.append, args := #[s, x], argTypes := #[t, t] })
    (v u v' : Value) (hs : a.eval s = v) (hx : a.eval x = u) (hrun : (Builtin.append_ #[t, t] o.type #[v, u]).run P w = .ok v' w') (hK : K (a.put o.dst v') w') :
    if Region.wanted o (yielded ops a.tmps) = true then Oper.wp P o a w K Q else E := by
  have hw : Region.wanted o (yielded ops a.tmps) = true := by simp [Region.wanted, hg]
  rw [if_pos hw]
  unfold Oper.wp
  simp [execOp, hop, resolve, invoke, builtin, hs, hx, hrun, Result.andThen]
  exact hK
/-- A region whose end is known. -/
theorem wp_mid {P : Program} {c : Code} {Q : Exit → Act → World → Prop} {a : Act} {w w10 : World} (A : Act) (hreg : c.wp P (fun e a w => match e with | .normal => a = A ∧ w = w10 | _ => False) a w) (hrest : Q .normal A w10) : c.wp P Q a w :=
  Code.wp_mono (fun e a w h => by
    cases e <;> first | exact h.elim | (obtain ⟨rfl, rfl⟩ := h; exact hrest)) hreg
end
end Go
namespace Go.Proofs.Ytnfnhgikhkpidaa.Given
open Go Go.RowKit Go.Maps Go.Proofs.Ytnfnhgikhkpidaa Go.Proofs.Ytnfnhgikhkpidaa.PPw Go.Proofs.YtnfnhgikhkpidaaW.PrintWords Go.Proofs.YtnfnhgikhkpidaaW.PrintLast Go.Proofs.YtnfnhgikhkpidaaW.PrintMore
open Go.Proofs.Ytnfnhgikhkpidaa.Red (Ed incAt)
open Go.ChangeShapes (lits)
set_option linter.unusedVariables false
abbrev Gr (w : World) (b n : Nat) (D : DD) : Prop := w.ownsGroups Try.prog 3 (b + 1) 3 .i64 b n D
def nums (zs : List Nat) : List Int := zs.map Int.ofNat
def dat (zs : List Nat) : DD := if zs = [] then .nil else .slice (lits .i64 (nums zs)) []
def GOk (D : DD) (F : Int → List Nat) : Prop := ∀ p, in64 p → D.atKey (.int .i64 p) .nil = dat (F p)
theorem GOk.nil : GOk (.map [] : DD) (fun _ => []) := fun p _ => rfl
theorem GOk.swap {D : DD} {F G : Int → List Nat} (h : GOk D F) (he : ∀ p, F p = G p) : GOk D G := fun p hp => by rw [h p hp, he p]
theorem GOk.put {D : DD} {F : Int → List Nat} (hm : IsMap D) (h : GOk D F) (p : Int) (i : Nat) : GOk (D.put (.int .i64 p) (.slice (lits .i64 (nums (F p) ++ [(i : Int)])) [])) (fun q => if q = p then F p ++ [i] else F q) := by
  intro q hq
  by_cases e : q = p
  · subst e
    rw [atKey_put_same hm (by trivial)]
    simp only [if_true]
    unfold dat
    rw [if_neg (by simp)]
    simp [nums]
  · rw [atKey_put_other (by simpa using e), h q hq]; simp only [if_neg e]
theorem zeroS (w : World) : (zeroValue 28).run Try.prog w = .ok (.slice none 0 0) w := by kernel_rfl
theorem lits_inj {a b : List Int} (h : (lits .i64 a : List DD) = lits .i64 b) : a = b := by
  unfold lits at h
  exact (List.map_inj_right (fun x y hxy => by injection hxy with hxy; injection hxy)).1 h
theorem gr_isMap {w : World} {b n : Nat} {D : DD} (h : Gr w b n D) : IsMap D := by
  obtain ⟨es, clock, hb, F, hs, rfl, _⟩ := h
  exact ⟨_, rfl⟩
theorem Gr.map {w : World} {b n : Nat} {D : DD} (h : Gr w b n D) : ∃ es clock, w.heap[b]? = some (.map es clock) := by
  obtain ⟨es, clock, hb, _⟩ := h
  exact ⟨es, clock, hb⟩
theorem Gr.lt {w : World} {b n : Nat} {D : DD} (h : Gr w b n D) : b < w.heap.size := by
  obtain ⟨es, clock, hb⟩ := h.map
  exact (Array.getElem?_eq_some_iff.1 hb).1
theorem nums_of {D : DD} {F : Int → List Nat} (ok : GOk D F) {p : Int} (hp : in64 p) {w : World} {base : Nat} {v : Value} {zs : List Int} (hat : D.atKey (.int .i64 p) .nil = rowDatum .i64 v zs) (ho : w.ownsInts base 3 .i64 v zs) : zs = nums (F p) := by
  rw [ok p hp] at hat
  unfold dat at hat
  rcases ho.datum (H := Unit) with ⟨h1, h2⟩ | h1
  · rw [h1] at hat
    by_cases hF : F p = []
    · rw [hF, h2]; rfl
    · rw [if_neg hF] at hat; cases hat
  · rw [h1] at hat
    by_cases hF : F p = []
    · rw [if_pos hF] at hat; cases hat
    · rw [if_neg hF] at hat
      injection hat with hat
      exact (lits_inj hat).symm
/-- A look-up, in every world that holds the map. -/
theorem look_gr {w : World} {b n : Nat} {D : DD} {F : Int → List Nat} (h : Gr w b n D) (hn : n < 1000000) (ok : GOk D F) {p : Int} (hp : in64 p) :
    ∃ v, (∀ w' : World, w'.heap[b]? = w.heap[b]? → (Instr.lookup 90 (.map (some b)) (.int .i64 p) false).run Try.prog w' = .ok v w') ∧ w.ownsInts (b + 1) 3 .i64 v (nums (F p)) ∧ (F p).length ≤ n ∧ w.groupBack Try.prog 90 3 (b + 1) 3 .i64 b n D (.int .i64 p) (.int .i64 p) v := by
  obtain ⟨v, zs, hrun, hat, ho, hl, hback⟩ := h.at law3 Try.underlying90 (zeroS _) (by unfold maxLen; omega) (key3 hp)
  have hz := nums_of ok hp hat ho
  rw [hz] at ho hl
  obtain ⟨es, clock, hb, F', _⟩ := id h
  exact ⟨v, fun w' hw' => lookup_same law3 Try.underlying90 zeroS F' hb (hw'.trans hb) (key3 hp) hrun, ho, by simpa [nums] using hl, hback⟩
/-- The row of numbers lies in no block of another type. -/
theorem ints_ne {w : World} {base : Nat} {v : Value} {zs : List Int} (ho : w.ownsInts base 3 .i64 v zs) {g : Nat} {cells : Array Value} {q : TypeId} (hq : q ≠ 3) (hb : w.heap[g]? = some (.cells cells q (0, 0))) : some g ≠ v.ownBlock := fun e => by
  obtain ⟨cells', hc⟩ := own_typed ho.1 g e.symm
  rw [hb] at hc
  injection hc with hc
  injection hc with _ hc _
  exact hq hc
theorem info_int : (Try.prog.info? 3).map (fun i => (i.zero, i.size, i.bytes)) = some (some (.int .i64 0), 1, 8) := by kernel_rfl
/-- 'm[p] = append(m[p], i)' -/
theorem prep {w : World} {b n : Nat} {D : DD} {F : Int → List Nat} (h : Gr w b n D) (hn : n < 1000000) (ok : GOk D F) {p : Int} (hp : in64 p) {i : Nat} (hi : i < 1000000) :
    ∃ (v v' : Value) (w9 w10 : World) (D' : DD), (∀ w' : World, w'.heap[b]? = w.heap[b]? → (Instr.lookup 90 (.map (some b)) (.int .i64 p) false).run Try.prog w' = .ok v w') ∧
      (Builtin.append_ #[28, 28] 28 #[v, .slice (some ⟨w.heap.size, 0, none⟩) 1 1]).run Try.prog (w.alloc (.cells #[.int .i64 (i : Int)] 3)) = .ok v' w9 ∧
      (∀ (g : Nat) (cells : Array Value) (q : TypeId), q ≠ 3 → w.heap[g]? = some (.cells cells q (0, 0)) → w9.heap[g]? = w.heap[g]?) ∧
      (Instr.mapUpdate 90 (.map (some b)) (.int .i64 p) v').run Try.prog w9 = .ok () w10 ∧ Gr w10 b (n + 1) D' ∧ GOk D' (fun q => if q = p then F p ++ [i] else F q) ∧
      (∀ (g : Nat) (cells : Array Value) (q : TypeId), q ≠ 3 → w.heap[g]? = some (.cells cells q (0, 0)) → w10.heap[g]? = w.heap[g]?) ∧ Below b w w10 := by
  obtain ⟨v, hlk, ho, hl, hback⟩ := look_gr h hn ok hp
  obtain ⟨i0, hi0, hz0, hz1, hz2⟩ := info_parts info_int
  have hlb : b < w.heap.size := by
    obtain ⟨es, clock, hb⟩ := h.map
    exact (Array.getElem?_eq_some_iff.1 hb).1
  have hln : (nums (F p)).length = (F p).length := by simp [nums]
  obtain ⟨v', w9, happ, hown, hgr, _, hloc⟩ := run_append_own_at (P := Try.prog) (w.alloc (.cells #[.int .i64 (i : Int)] 3)) (b + 1) 28 28 3 i0 (.int .i64 0) 1 8 Try.underlying28 hi0 hz0 hz1 hz2 rfl (by decide) v (nums (F p)).length _ (ho.1.alloc _)
    ⟨w.heap.size, 0, none⟩ 1 1 [.int .i64 (i : Int)] rfl (cell_one_new _ _ _) (ints_oneCell .i64 [(i : Int)]) (by unfold maxLen; omega) (by omega) (by simp; omega)
  have hgall : w.grownBy w9 v.ownBlock := (World.grownBy_alloc _ _ _).trans hgr
  have hown' := ho.appended hown (wf_of (n := (i : Int)) ⟨by omega, by omega⟩)
  obtain ⟨w10, hup, hg10, hgr10⟩ := hback w9 v' _ hgall hown' (by simp; omega) (hloc.imp id (fun h => ⟨_, h, by simp⟩))
  have hv : ∀ (g : Nat) (cells : Array Value) (q : TypeId), q ≠ 3 → w.heap[g]? = some (.cells cells q (0, 0)) → w9.heap[g]? = w.heap[g]? := fun g cells q hq hg => hgall.block g (Array.getElem?_eq_some_iff.1 hg).1 (ints_ne ho hq hg)
  refine ⟨v, v', w9, w10, _, hlk, happ, hv, hup, hg10, ?_, fun g cells q hq hg => ?_, ?_⟩
  · rw [hown'.datum_pos (by simp)]
    exact ok.put (gr_isMap h) p i
  · refine (hgr10.block g ?_ (fun e => ?_)).trans (hv g cells q hq hg)
    · exact Nat.lt_of_lt_of_le (Array.getElem?_eq_some_iff.1 hg).1 hgall.size
    · injection e with e
      subst e
      obtain ⟨es, clock, hb⟩ := h.map
      rw [hb] at hg
      cases hg
  · exact ((Below.refl b w).grown hgall (Nat.le_of_lt hlb) (fun k hk => by have := (ho.1.lt k hk).1; omega)).grown hgr10 (Nat.le_trans (Nat.le_of_lt hlb) hgall.size) (fun k hk => by injection hk with hk; omega)
theorem incAt_append (p : Int) : ∀ (a b : List Ed) (k : Nat), incAt k (a ++ b) p = incAt k a p ++ incAt (k + a.length) b p
  | [], b, k => by simp [incAt]
  | w :: ws, b, k => by
    rw [List.cons_append, show incAt k (w :: (ws ++ b)) p = (if w.1 = p ∨ w.2 = p then k :: incAt (k + 1) (ws ++ b) p else incAt (k + 1) (ws ++ b) p) from rfl, show incAt k (w :: ws) p = (if w.1 = p ∨ w.2 = p then k :: incAt (k + 1) ws p else incAt (k + 1) ws p) from rfl]
    rw [incAt_append p ws b (k + 1), List.length_cons, show k + 1 + ws.length = k + (ws.length + 1) by omega]
    split <;> simp
theorem incAt_take {W : List Ed} {i : Nat} (hi : i < W.length) (p : Int) : incAt 0 (W.take (i + 1)) p = incAt 0 (W.take i) p ++ (if W[i].1 = p ∨ W[i].2 = p then [i] else []) := by
  rw [List.take_succ_eq_append_getElem hi, incAt_append]
  congr 1
  rw [List.length_take, show 0 + min i W.length = i by omega]
  simp [incAt]
end Go.Proofs.Ytnfnhgikhkpidaa.Given
end

section
/- power.Wires on two contacts in series: the drawer's contact arm, walked; then the series of two. -/
namespace Go.Proofs.Ytnfnhgikhkpidaa.Given
open Go Go.RowKit Go.Maps Go.Proofs.Ytnfnhgikhkpidaa Go.Proofs.Ytnfnhgikhkpidaa.PPw Go.Proofs.YtnfnhgikhkpidaaW.PrintWords Go.Proofs.YtnfnhgikhkpidaaW.PrintLast Go.Proofs.YtnfnhgikhkpidaaW.PrintMore
set_option linter.unusedVariables false
set_option linter.unusedSimpArgs false
section
variable {P : Program} {α : Type}
/-- append's run: a row of one's own, one element behind it. -/
theorem app_run (d : Kd α) {W : World} (base : Nat) (t ty e : TypeId) (z : Value) (bytes : Nat) (ht : P.underlying t = some (.slice e))
    (hinfo : (P.info? e).map (fun i => (i.zero, i.size, i.bytes)) = some (some z, d.sz, bytes)) (hz : z.cells.size = d.sz) (hs0 : 0 < d.sz) (hb0 : 0 < bytes)
    (v : Value) (xs : List α) (p : α) (cs : List Value) (ok okp : Nat → Prop) (hp : d.M W base okp p cs) (hokp : ∀ k, okp k → ok k ∧ some k ≠ v.ownBlock) (hfresh : ∀ k, W.heap.size ≤ k → ok k)
    (HO : d.R e W base ok v xs) (hbase : base ≤ W.heap.size) (hl : (xs.length + 1) * bytes ≤ 140737488355328) :
    ∃ v1 w1, (Builtin.append_ #[t, t] ty #[v, .slice (some ⟨W.heap.size, 0, none⟩) 1 1]).run P (W.alloc (.cells cs.toArray e)) = .ok v1 w1 ∧ d.R e w1 base ok v1 (xs ++ [p]) ∧ W.grownBy w1 v.ownBlock := by
  obtain ⟨h0, inner, hown, hr⟩ := HO
  obtain ⟨i0, hi, hzz⟩ := Option.map_eq_some_iff.1 hinfo
  simp only [Prod.mk.injEq] at hzz
  obtain ⟨hz0, hz1, hz2⟩ := hzz
  have hlen : xs.length + 1 ≤ 140737488355328 := Nat.le_trans (Nat.le_mul_of_pos_right _ hb0) hl
  obtain ⟨v1, w1, hrun, hown1, hg, _, hat⟩ := run_append_own_at (P := P) (W.alloc (.cells cs.toArray e)) base t ty e i0 z d.sz bytes ht hi hz0 hz1 hz2 hz hs0 v xs.length inner (hown.alloc _)
    ⟨W.heap.size, 0, none⟩ 1 1 cs (by rw [d.K_len (d.K_of_M hp)]; simp) (by simpa using World.news_of_block (cs := cs.toArray) (t := e) (fr := (0, 0)) (heap_alloc_new W (.cells cs.toArray e))) (d.K_one (d.K_of_M hp)) (by simp only [maxLen]; omega) hl (by simp; omega)
  have hgr := World.grownBy.trans (World.grownBy_alloc W _ _) hg
  refine ⟨v1, w1, hrun, Kd.R_appended h0 hr hp hokp hfresh hown1 hgr (hat.imp id (fun h => ⟨_, h, by simp⟩)), hgr⟩
end
abbrev contact : Value := .agg #[.int .i64 1, .int .i64 0, .int .i64 0, .int .i64 0, .int .i64 0, .int .i64 0, .slice none 0 0, .slice none 0 0]
def wireOf (a b : Int) : S40 := ⟨a, b, 0, z27⟩
theorem wireM (w : World) (base : Nat) (ok : Nat → Prop) (a b : Int) : k40.M w base ok (wireOf a b) [.int .i64 a, .int .i64 b, .int .i64 0, .int .i64 0, .int .i64 0, .int .i64 0, .int .i64 0, .slice none 0 0] := k40_mkM w base ok (wireOf a b) (Kd.R_nil _ _ _ _ _)
theorem infoW : (Try.prog.info? 40).map (fun i => (i.zero, i.size, i.bytes)) = some (some (.agg #[.int .i64 0, .int .i64 0, .int .i64 0, .int .i64 0, .int .i64 0, .int .i64 0, .int .i64 0, .slice none 0 0]), 8, 80) := by kernel_rfl
theorem cell_al2 {w : World} {p : Addr} {v : Value} (o : Obj) (h : w.cell? p = some v) : (w.alloc o).cell? p = some v := (((Below.refl w.heap.size w).alloc (Nat.le_refl _) o).cell (World.block_lt_of_cell? w _ h)).trans h
/-- The drawer's state: its block, what it has drawn, the next point. -/
structure Dr (w : World) (d : Nat) (v : Value) (nx : Int) (out : List S40) : Prop where
  blk : w.heap[d]? = some (.cells #[v, .int .i64 nx] 88)
  row : Kd.R k40 40 w (d + 1) (fun k => d < k) v out
set_option maxHeartbeats 4000000 in
set_option maxRecDepth 100000 in
theorem lay_contact (w : World) (d : Nat) (v : Value) (nx : Int) (out : List S40) (a b : Int) (h : Dr w d v nx out) (hl : out.length ≤ 10) :
    Calls Try.prog 41 #[.pointer (some ⟨d, 0, none⟩), contact, .int .i64 a, .int .i64 b] w fun e w' => e = .returned (.tuple #[]) ∧ Below d w w' ∧ KeepBut w w' d v.ownBlock ∧ ∃ v', Dr w' d v' nx (out ++ [wireOf a b]) := by
  have hd : d < w.heap.size := (Array.getElem?_eq_some_iff.1 h.blk).1
  obtain ⟨w0, hw0⟩ : ∃ w0, w.alloc (.cells #[.int .i64 1, .int .i64 0, .int .i64 0, .int .i64 0, .int .i64 0, .int .i64 0, .slice none 0 0, .slice none 0 0] 60) = w0 := ⟨_, rfl⟩
  have hB0 : Below w.heap.size w w0 := by rw [← hw0]; exact (Below.refl _ _).alloc (Nat.le_refl _) _
  have hg0 : w0.heap[w.heap.size]? = some (.cells #[.int .i64 1, .int .i64 0, .int .i64 0, .int .i64 0, .int .i64 0, .int .i64 0, .slice none 0 0, .slice none 0 0] 60) := by rw [← hw0]; exact heap_alloc_new w _
  have HB0 := Aside0.mk hB0
  have HG0 := Aside0.mk hg0
  have HR0 := Aside0.mk (Kd.R_below h.row hB0)
  have HD0 := Aside0.mk ((hB0.block d hd).trans h.blk)
  have HD := Aside0.mk hd
  have HL := Aside0.mk hl
  have s0 : w0.cell? ⟨w.heap.size, 0, none⟩ = _ := (blk_cell hg0 0).trans rfl
  clear hB0 hg0 h hd hl
  go_enter Try.func41, Try.ntmps41
  go_wp2_with fail
  obtain ⟨v', w1, happ, hR1, hgr⟩ := app_run k40 (P := Try.prog) (W := w0.drew) (d + 1) 35 35 40 (.agg #[.int .i64 0, .int .i64 0, .int .i64 0, .int .i64 0, .int .i64 0, .int .i64 0, .int .i64 0, .slice none 0 0]) 80 Try.underlying35 infoW rfl (by decide) (by omega) v out (wireOf a b) [.int .i64 a, .int .i64 b, .int .i64 0, .int .i64 0, .int .i64 0, .int .i64 0, .int .i64 0, .slice none 0 0] (fun k => d < k) (fun _ => False) (wireM _ _ _ a b) (fun _ hk => hk.elim) (fun k hk => Nat.lt_of_lt_of_le HD.out (Nat.le_trans HB0.out.size hk)) (Kd.R_step HR0.out (fun _ _ _ => rfl)) (Nat.le_trans HD.out HB0.out.size) (by have := HL.out; omega)
  have dd : w0.heap[d]? = some (.cells #[v, .int .i64 nx] 88) := HD0.out
  have d0 : w0.drew.cell? ⟨d, 0, none⟩ = some v := (blk_cell dd 0).trans rfl
  have d1 : (w0.alloc (.cells #[.int .i64 a, .int .i64 b, .int .i64 0, .int .i64 0, .int .i64 0, .int .i64 0, .int .i64 0, .slice none 0 0] 40)).cell? ⟨d, 0, none⟩ = some v := cell_al2 _ ((blk_cell dd 0).trans rfl)
  have n1 : w0.drew.cell? ⟨w.heap.size, 1, none⟩ = some (.int .i64 0) := (blk_cell HG0.out 1).trans rfl
  have n2 : w0.drew.cell? ⟨w.heap.size, 2, none⟩ = some (.int .i64 0) := (blk_cell HG0.out 2).trans rfl
  have n3 : w0.drew.cell? ⟨w.heap.size, 3, none⟩ = some (.int .i64 0) := (blk_cell HG0.out 3).trans rfl
  have n4 : w0.drew.cell? ⟨w.heap.size, 4, none⟩ = some (.int .i64 0) := (blk_cell HG0.out 4).trans rfl
  have n5 : w0.drew.cell? ⟨w.heap.size, 5, none⟩ = some (.int .i64 0) := (blk_cell HG0.out 5).trans rfl
  have n6 : w0.drew.cell? ⟨w.heap.size, 6, none⟩ = some (.slice none 0 0) := (blk_cell HG0.out 6).trans rfl
  have hne : d ≠ d + 1 := by omega
  have hd1 : w1.heap[d]? = some (.cells #[v, .int .i64 nx] 88) := by
    refine (hgr.block d (Nat.lt_of_lt_of_le HD.out HB0.out.size) (fun e => ?_)).trans dd
    exact Nat.lt_irrefl _ (HR0.out.1 d e.symm)
  have c1 : w1.cell? ⟨d, 0, none⟩ = some v := (blk_cell hd1 0).trans rfl
  obtain ⟨A', c', rfl⟩ := Kd.R_slice hR1
  have f1 : w1.frozen? ⟨d, 0, none⟩ = false := blk_frozen hd1 0
  clear s0 dd hne hw0
  apply wp_mid (w10 := w1.setCell ⟨d, 0, none⟩ (.slice A' (out.length + 1) c'))
  case hreg =>
    go_region_law (refine step_append_eq rfl (.tmp 17) (.tmp 25) 35 rfl v _ (.slice A' (out ++ [wireOf a b]).length c') rfl rfl happ ?_)
    all_goals exact ⟨rfl, rfl⟩
  go_wp2_with fail
  go_end0
  have hgr2 : w0.grownBy w1 v.ownBlock := ⟨hgr.1, hgr.2, hgr.3, hgr.4, hgr.5⟩
  have hlt : d < w0.heap.size := Nat.lt_of_lt_of_le HD.out HB0.out.size
  refine ⟨rfl, ?_, ?_, .slice A' (out.length + 1) c', ?_, ?_⟩
  · exact ((HB0.out.mono (Nat.le_of_lt HD.out)).grown hgr2 (Nat.le_of_lt hlt) (fun k hk => Nat.le_of_lt (HR0.out.1 k hk))).setCell (Nat.le_refl _) _
  · refine KeepBut.set_ ⟨Nat.le_trans HB0.out.size hgr2.size, fun i hi _ hr => ?_⟩ 0 _
    exact (hgr2.block i (Nat.lt_of_lt_of_le hi HB0.out.size) hr).trans (HB0.out.block i hi)
  · exact blk_set hd1 0 _
  · have := Kd.R_far (p := ⟨d, 0, none⟩) hR1 (fun k hk => Nat.ne_of_gt hk) (.slice A' (out.length + 1) c')
    rw [List.length_append] at this
    exact this
end Go.Proofs.Ytnfnhgikhkpidaa.Given
end

section
/- power.Wires on two contacts in series: the drawer's series of two, walked. -/
namespace Go.Proofs.Ytnfnhgikhkpidaa.Given
open Go Go.RowKit Go.Maps Go.Proofs.Ytnfnhgikhkpidaa Go.Proofs.Ytnfnhgikhkpidaa.PPw Go.Proofs.YtnfnhgikhkpidaaW.PrintWords Go.Proofs.YtnfnhgikhkpidaaW.PrintLast Go.Proofs.YtnfnhgikhkpidaaW.PrintMore
set_option linter.unusedVariables false
set_option linter.unusedSimpArgs false
abbrev cells1 : Array Value := #[.int .i64 1, .int .i64 0, .int .i64 0, .int .i64 0, .int .i64 0, .int .i64 0, .slice none 0 0, .slice none 0 0]
abbrev cells2 : Array Value := #[.int .i64 1, .int .i64 0, .int .i64 0, .int .i64 0, .int .i64 0, .int .i64 0, .slice none 0 0, .slice none 0 0, .int .i64 1, .int .i64 0, .int .i64 0, .int .i64 0, .int .i64 0, .int .i64 0, .slice none 0 0, .slice none 0 0]
abbrev cellsS (g : Nat) : Array Value := #[.int .i64 2, .int .i64 0, .int .i64 0, .int .i64 0, .int .i64 0, .int .i64 0, .slice none 0 0, .slice (some ⟨g, 0, none⟩) 2 2]
def AI (i : Nat) : Int := if i = 0 then 0 else if i = 1 then 2 else 1
def NX (i : Nat) : Int := if i = 0 then 2 else 3
def OUT (i : Nat) : List S40 := if i = 0 then [] else if i = 1 then [wireOf 0 2] else [wireOf 0 2, wireOf 2 1]
set_option maxHeartbeats 4000000 in
set_option maxRecDepth 100000 in
theorem lay_series (w : World) (d g : Nat) (h : Dr w d (.slice none 0 0) 2 []) (hg : w.heap[g]? = some (.cells cells2 60)) (hgd : g < d) :
    Calls Try.prog 41 #[.pointer (some ⟨d, 0, none⟩), .agg (cellsS g), .int .i64 0, .int .i64 1] w fun e w' => e = .returned (.tuple #[]) ∧ Below d w w' ∧ ∃ v', Dr w' d v' 3 [wireOf 0 2, wireOf 2 1] := by
  have hd : d < w.heap.size := (Array.getElem?_eq_some_iff.1 h.blk).1
  obtain ⟨w0, hw0⟩ : ∃ w0, w.alloc (.cells (cellsS g) 60) = w0 := ⟨_, rfl⟩
  have hB0 : Below w.heap.size w w0 := by rw [← hw0]; exact (Below.refl _ _).alloc (Nat.le_refl _) _
  have hg0 : w0.heap[w.heap.size]? = some (.cells (cellsS g) 60) := by rw [← hw0]; exact heap_alloc_new w _
  have HB0 := Aside0.mk hB0
  have HG0 := Aside0.mk hg0
  have HGB := Aside0.mk ((hB0.block g (blk_lt hg)).trans hg)
  have HD0 := Aside0.mk (show Dr w0 d (.slice none 0 0) 2 [] from ⟨(hB0.block d hd).trans h.blk, Kd.R_below h.row hB0⟩)
  have HD := Aside0.mk hd
  have HGD := Aside0.mk hgd
  have s0 : w0.cell? ⟨w.heap.size, 0, none⟩ = _ := (blk_cell hg0 0).trans rfl
  have s3 : w0.cell? ⟨w.heap.size, 7, none⟩ = _ := (blk_cell hg0 7).trans rfl
  have hi8 : (Try.prog.info? 60).map (·.size) = some 8 := by kernel_rfl
  clear hB0 hg0 h hd hg hgd
  go_enter Try.func41, Try.ntmps41
  go_wp2_with fail
  clear s0 s3 hw0
  go_loopw [2, 53] (fun av iv wr => ∃ (i : Nat) (v : Value), av = .int .i64 (AI i) ∧ iv = .int .i64 (i : Int) ∧ i ≤ 2 ∧ Aside0 (Dr wr d v (NX i) (OUT i)) ∧ Aside0 (Below d w0 wr) ∧ Aside0 (wr.heap[w.heap.size]? = some (.cells (cellsS g) 60))) (fun _ iv _ => 2 - (intOf iv).toNat)
  case atStart => exact ⟨0, _, rfl, rfl, by decide, HD0, ⟨Below.refl _ _⟩, HG0⟩
  case round =>
    obtain ⟨i, v, rfl, rfl, hi, HDR, HB, HN⟩ := hrel
    have hi3 : i = 0 ∨ i = 1 ∨ i = 2 := by omega
    rcases hi3 with rfl | rfl | rfl
    · simp only [AI, if_true]
      have hdr : Dr wr d v 2 [] := HDR.out
      have hgw := (HB.out.block g HGD.out).trans HGB.out
      have q0 : wr.cell? ⟨g, 0, none⟩ = some (.int .i64 1) := (blk_cell hgw 0).trans rfl
      have q1 : wr.cell? ⟨g, 1, none⟩ = some (.int .i64 0) := (blk_cell hgw 1).trans rfl
      have q2 : wr.cell? ⟨g, 2, none⟩ = some (.int .i64 0) := (blk_cell hgw 2).trans rfl
      have q3 : wr.cell? ⟨g, 3, none⟩ = some (.int .i64 0) := (blk_cell hgw 3).trans rfl
      have q4 : wr.cell? ⟨g, 4, none⟩ = some (.int .i64 0) := (blk_cell hgw 4).trans rfl
      have q5 : wr.cell? ⟨g, 5, none⟩ = some (.int .i64 0) := (blk_cell hgw 5).trans rfl
      have q6 : wr.cell? ⟨g, 6, none⟩ = some (.slice none 0 0) := (blk_cell hgw 6).trans rfl
      have q7 : wr.cell? ⟨g, 7, none⟩ = some (.slice none 0 0) := (blk_cell hgw 7).trans rfl
      have hz := heap_alloc_new wr (.cells #[.int .i64 0, .int .i64 0, .int .i64 0, .int .i64 0, .int .i64 0, .int .i64 0, .slice none 0 0, .slice none 0 0] 60)
      have hg7 := setRow_heap _ _ _ #[.int .i64 1, .int .i64 0, .int .i64 0, .int .i64 0, .int .i64 0, .int .i64 0, .slice none 0 0, .slice none 0 0] _ _ hz
      have hB7 := below_setRow ((Below.refl wr.heap.size wr).alloc (Nat.le_refl _) (.cells #[.int .i64 0, .int .i64 0, .int .i64 0, .int .i64 0, .int .i64 0, .int .i64 0, .slice none 0 0, .slice none 0 0] 60)) (Nat.le_refl wr.heap.size) #[.int .i64 1, .int .i64 0, .int .i64 0, .int .i64 0, .int .i64 0, .int .i64 0, .slice none 0 0, .slice none 0 0]
      have hd7 : ((wr.alloc (.cells #[.int .i64 0, .int .i64 0, .int .i64 0, .int .i64 0, .int .i64 0, .int .i64 0, .slice none 0 0, .slice none 0 0] 60)).setRow wr.heap.size #[.int .i64 1, .int .i64 0, .int .i64 0, .int .i64 0, .int .i64 0, .int .i64 0, .slice none 0 0, .slice none 0 0]).heap[d]? = some (.cells #[v, .int .i64 2] 88) := (hB7.block d (blk_lt hdr.blk)).trans hdr.blk
      have hn7 : ((wr.alloc (.cells #[.int .i64 0, .int .i64 0, .int .i64 0, .int .i64 0, .int .i64 0, .int .i64 0, .slice none 0 0, .slice none 0 0] 60)).setRow wr.heap.size #[.int .i64 1, .int .i64 0, .int .i64 0, .int .i64 0, .int .i64 0, .int .i64 0, .slice none 0 0, .slice none 0 0]).heap[w.heap.size]? = some (.cells (cellsS g) 60) := (hB7.block _ (blk_lt HN.out)).trans HN.out
      have HZ7 := Aside0.mk hz
      have HB7 := Aside0.mk hB7
      have HG7 := Aside0.mk hg7
      have HD7 := Aside0.mk hd7
      have HN7 := Aside0.mk hn7
      have HR7 := Aside0.mk (Kd.R_below hdr.row hB7)
      have e7 : ((wr.alloc (.cells #[.int .i64 0, .int .i64 0, .int .i64 0, .int .i64 0, .int .i64 0, .int .i64 0, .slice none 0 0, .slice none 0 0] 60)).setRow wr.heap.size #[.int .i64 1, .int .i64 0, .int .i64 0, .int .i64 0, .int .i64 0, .int .i64 0, .slice none 0 0, .slice none 0 0]).cell? ⟨w.heap.size, 7, none⟩ = some (.slice (some ⟨g, 0, none⟩) 2 2) := (blk_cell hn7 7).trans rfl
      have n7 : ((wr.alloc (.cells #[.int .i64 0, .int .i64 0, .int .i64 0, .int .i64 0, .int .i64 0, .int .i64 0, .slice none 0 0, .slice none 0 0] 60)).setRow wr.heap.size #[.int .i64 1, .int .i64 0, .int .i64 0, .int .i64 0, .int .i64 0, .int .i64 0, .slice none 0 0, .slice none 0 0]).cell? ⟨d, 1, none⟩ = some (.int .i64 2) := (blk_cell hd7 1).trans rfl
      have f7 : ((wr.alloc (.cells #[.int .i64 0, .int .i64 0, .int .i64 0, .int .i64 0, .int .i64 0, .int .i64 0, .slice none 0 0, .slice none 0 0] 60)).setRow wr.heap.size #[.int .i64 1, .int .i64 0, .int .i64 0, .int .i64 0, .int .i64 0, .int .i64 0, .slice none 0 0, .slice none 0 0]).frozen? ⟨d, 1, none⟩ = false := blk_frozen hd7 1
      have g8 : (((wr.alloc (.cells #[.int .i64 0, .int .i64 0, .int .i64 0, .int .i64 0, .int .i64 0, .int .i64 0, .slice none 0 0, .slice none 0 0] 60)).setRow wr.heap.size #[.int .i64 1, .int .i64 0, .int .i64 0, .int .i64 0, .int .i64 0, .int .i64 0, .slice none 0 0, .slice none 0 0]).setCell ⟨d, 1, none⟩ (.int .i64 3)).heap[wr.heap.size]? = some (.cells #[.int .i64 1, .int .i64 0, .int .i64 0, .int .i64 0, .int .i64 0, .int .i64 0, .slice none 0 0, .slice none 0 0] 60) := blk_far hg7 (p := ⟨d, 1, none⟩) (Nat.ne_of_gt (blk_lt hdr.blk)) _
      have HG8 := Aside0.mk g8
      have c0 : (((wr.alloc (.cells #[.int .i64 0, .int .i64 0, .int .i64 0, .int .i64 0, .int .i64 0, .int .i64 0, .slice none 0 0, .slice none 0 0] 60)).setRow wr.heap.size #[.int .i64 1, .int .i64 0, .int .i64 0, .int .i64 0, .int .i64 0, .int .i64 0, .slice none 0 0, .slice none 0 0]).setCell ⟨d, 1, none⟩ (.int .i64 3)).cell? ⟨wr.heap.size, 0, none⟩ = some (.int .i64 1) := (blk_cell g8 0).trans rfl
      have c1 : (((wr.alloc (.cells #[.int .i64 0, .int .i64 0, .int .i64 0, .int .i64 0, .int .i64 0, .int .i64 0, .slice none 0 0, .slice none 0 0] 60)).setRow wr.heap.size #[.int .i64 1, .int .i64 0, .int .i64 0, .int .i64 0, .int .i64 0, .int .i64 0, .slice none 0 0, .slice none 0 0]).setCell ⟨d, 1, none⟩ (.int .i64 3)).cell? ⟨wr.heap.size, 1, none⟩ = some (.int .i64 0) := (blk_cell g8 1).trans rfl
      have c2 : (((wr.alloc (.cells #[.int .i64 0, .int .i64 0, .int .i64 0, .int .i64 0, .int .i64 0, .int .i64 0, .slice none 0 0, .slice none 0 0] 60)).setRow wr.heap.size #[.int .i64 1, .int .i64 0, .int .i64 0, .int .i64 0, .int .i64 0, .int .i64 0, .slice none 0 0, .slice none 0 0]).setCell ⟨d, 1, none⟩ (.int .i64 3)).cell? ⟨wr.heap.size, 2, none⟩ = some (.int .i64 0) := (blk_cell g8 2).trans rfl
      have c3 : (((wr.alloc (.cells #[.int .i64 0, .int .i64 0, .int .i64 0, .int .i64 0, .int .i64 0, .int .i64 0, .slice none 0 0, .slice none 0 0] 60)).setRow wr.heap.size #[.int .i64 1, .int .i64 0, .int .i64 0, .int .i64 0, .int .i64 0, .int .i64 0, .slice none 0 0, .slice none 0 0]).setCell ⟨d, 1, none⟩ (.int .i64 3)).cell? ⟨wr.heap.size, 3, none⟩ = some (.int .i64 0) := (blk_cell g8 3).trans rfl
      have c4 : (((wr.alloc (.cells #[.int .i64 0, .int .i64 0, .int .i64 0, .int .i64 0, .int .i64 0, .int .i64 0, .slice none 0 0, .slice none 0 0] 60)).setRow wr.heap.size #[.int .i64 1, .int .i64 0, .int .i64 0, .int .i64 0, .int .i64 0, .int .i64 0, .slice none 0 0, .slice none 0 0]).setCell ⟨d, 1, none⟩ (.int .i64 3)).cell? ⟨wr.heap.size, 4, none⟩ = some (.int .i64 0) := (blk_cell g8 4).trans rfl
      have c5 : (((wr.alloc (.cells #[.int .i64 0, .int .i64 0, .int .i64 0, .int .i64 0, .int .i64 0, .int .i64 0, .slice none 0 0, .slice none 0 0] 60)).setRow wr.heap.size #[.int .i64 1, .int .i64 0, .int .i64 0, .int .i64 0, .int .i64 0, .int .i64 0, .slice none 0 0, .slice none 0 0]).setCell ⟨d, 1, none⟩ (.int .i64 3)).cell? ⟨wr.heap.size, 5, none⟩ = some (.int .i64 0) := (blk_cell g8 5).trans rfl
      have c6 : (((wr.alloc (.cells #[.int .i64 0, .int .i64 0, .int .i64 0, .int .i64 0, .int .i64 0, .int .i64 0, .slice none 0 0, .slice none 0 0] 60)).setRow wr.heap.size #[.int .i64 1, .int .i64 0, .int .i64 0, .int .i64 0, .int .i64 0, .int .i64 0, .slice none 0 0, .slice none 0 0]).setCell ⟨d, 1, none⟩ (.int .i64 3)).cell? ⟨wr.heap.size, 6, none⟩ = some (.slice none 0 0) := (blk_cell g8 6).trans rfl
      have c7 : (((wr.alloc (.cells #[.int .i64 0, .int .i64 0, .int .i64 0, .int .i64 0, .int .i64 0, .int .i64 0, .slice none 0 0, .slice none 0 0] 60)).setRow wr.heap.size #[.int .i64 1, .int .i64 0, .int .i64 0, .int .i64 0, .int .i64 0, .int .i64 0, .slice none 0 0, .slice none 0 0]).setCell ⟨d, 1, none⟩ (.int .i64 3)).cell? ⟨wr.heap.size, 7, none⟩ = some (.slice none 0 0) := (blk_cell g8 7).trans rfl
      clear hgw hz hg7 hB7 hd7 hn7 hdr g8
      go_wp2_with ((with_reducible refine gate_store (t := 60) (p := 11) (v := .tmp 57) rfl ?_); refine wpList_store_row rfl 60 (.tmp 11) (.tmp 57) rfl wr.heap.size #[.int .i64 1, .int .i64 0, .int .i64 0, .int .i64 0, .int .i64 0, .int .i64 0, .slice none 0 0, .slice none 0 0] rfl rfl 60 _ HZ7.out (by rw [hi8]; rfl) rfl (by kernel_rfl) ?_; generalize hW7 : ((wr.alloc (.cells #[.int .i64 0, .int .i64 0, .int .i64 0, .int .i64 0, .int .i64 0, .int .i64 0, .slice none 0 0, .slice none 0 0] 60)).setRow wr.heap.size #[.int .i64 1, .int .i64 0, .int .i64 0, .int .i64 0, .int .i64 0, .int .i64 0, .slice none 0 0, .slice none 0 0]) = w7 at HB7 HG7 HD7 HN7 HR7 e7 n7 f7 HG8 c0 c1 c2 c3 c4 c5 c6 c7 ⊢; clear hW7)
      clear q0 q1 q2 q3 q4 q5 q6 q7 e7 c0 c1 c2 c3 c4 c5 c6 c7 n7 f7
      have HDR8 : Dr (w7.setCell ⟨d, 1, none⟩ (.int .i64 3)) d v 3 [] := ⟨by have := blk_set HD7.out 1 (.int .i64 3); exact this, Kd.R_far (p := ⟨d, 1, none⟩) HR7.out (fun k hk => Nat.ne_of_gt hk) _⟩
      have HN8 : (w7.setCell ⟨d, 1, none⟩ (.int .i64 3)).heap[w.heap.size]? = some (.cells (cellsS g) 60) := blk_far HN7.out (p := ⟨d, 1, none⟩) (Nat.ne_of_gt HD.out) _
      have HB8 : Below d w0 (w7.setCell ⟨d, 1, none⟩ (.int .i64 3)) := (HB.out.trans (HB7.out.mono (Nat.le_of_lt (Nat.lt_of_lt_of_le HD.out (Nat.le_trans HB0.out.size HB.out.size))))).setCell (Nat.le_refl _) _
      refine (lay_contact (w7.setCell ⟨d, 1, none⟩ (.int .i64 3)) d v 3 [] 0 2 HDR8 (by decide)).mono ?_
      rintro e w9 ⟨rfl, hB9, hK9, v', hDr9⟩
      have HDR9 := Aside0.mk hDr9
      have HB9 := Aside0.mk (HB8.trans hB9)
      have HN9 : Aside0 (w9.heap[w.heap.size]? = some (.cells (cellsS g) 60)) := ⟨(hK9.2 _ (blk_lt HN8) (Nat.ne_of_gt HD.out) (by obtain ⟨inner, ho⟩ := Kd.R_own HDR8.row; exact own_ne ho HN8 (by decide))).trans HN8⟩
      clear hDr9 hB9 hK9 HDR8 HN8 HB8 HB7 HG7 HD7 HN7 HR7 HZ7 HDR HB HN HG8
      go_wp2_with fail
      go_roundw
      case rel => exact ⟨1, v', rfl, rfl, by decide, HDR9, HB9, HN9⟩
      case measure => simp [intOf]
    · simp only [AI, show ¬ ((1 : Nat) = 0) by decide, if_true, if_false]
      have hdr : Dr wr d v 3 [wireOf 0 2] := HDR.out
      have hgw := (HB.out.block g HGD.out).trans HGB.out
      have q0 : wr.cell? ⟨g, 8, none⟩ = some (.int .i64 1) := (blk_cell hgw 8).trans rfl
      have q1 : wr.cell? ⟨g, 9, none⟩ = some (.int .i64 0) := (blk_cell hgw 9).trans rfl
      have q2 : wr.cell? ⟨g, 10, none⟩ = some (.int .i64 0) := (blk_cell hgw 10).trans rfl
      have q3 : wr.cell? ⟨g, 11, none⟩ = some (.int .i64 0) := (blk_cell hgw 11).trans rfl
      have q4 : wr.cell? ⟨g, 12, none⟩ = some (.int .i64 0) := (blk_cell hgw 12).trans rfl
      have q5 : wr.cell? ⟨g, 13, none⟩ = some (.int .i64 0) := (blk_cell hgw 13).trans rfl
      have q6 : wr.cell? ⟨g, 14, none⟩ = some (.slice none 0 0) := (blk_cell hgw 14).trans rfl
      have q7 : wr.cell? ⟨g, 15, none⟩ = some (.slice none 0 0) := (blk_cell hgw 15).trans rfl
      have hz := heap_alloc_new wr (.cells #[.int .i64 0, .int .i64 0, .int .i64 0, .int .i64 0, .int .i64 0, .int .i64 0, .slice none 0 0, .slice none 0 0] 60)
      have hg7 := setRow_heap _ _ _ #[.int .i64 1, .int .i64 0, .int .i64 0, .int .i64 0, .int .i64 0, .int .i64 0, .slice none 0 0, .slice none 0 0] _ _ hz
      have hB7 := below_setRow ((Below.refl wr.heap.size wr).alloc (Nat.le_refl _) (.cells #[.int .i64 0, .int .i64 0, .int .i64 0, .int .i64 0, .int .i64 0, .int .i64 0, .slice none 0 0, .slice none 0 0] 60)) (Nat.le_refl wr.heap.size) #[.int .i64 1, .int .i64 0, .int .i64 0, .int .i64 0, .int .i64 0, .int .i64 0, .slice none 0 0, .slice none 0 0]
      have hd7 : ((wr.alloc (.cells #[.int .i64 0, .int .i64 0, .int .i64 0, .int .i64 0, .int .i64 0, .int .i64 0, .slice none 0 0, .slice none 0 0] 60)).setRow wr.heap.size #[.int .i64 1, .int .i64 0, .int .i64 0, .int .i64 0, .int .i64 0, .int .i64 0, .slice none 0 0, .slice none 0 0]).heap[d]? = some (.cells #[v, .int .i64 3] 88) := (hB7.block d (blk_lt hdr.blk)).trans hdr.blk
      have hn7 : ((wr.alloc (.cells #[.int .i64 0, .int .i64 0, .int .i64 0, .int .i64 0, .int .i64 0, .int .i64 0, .slice none 0 0, .slice none 0 0] 60)).setRow wr.heap.size #[.int .i64 1, .int .i64 0, .int .i64 0, .int .i64 0, .int .i64 0, .int .i64 0, .slice none 0 0, .slice none 0 0]).heap[w.heap.size]? = some (.cells (cellsS g) 60) := (hB7.block _ (blk_lt HN.out)).trans HN.out
      have HZ7 := Aside0.mk hz
      have HB7 := Aside0.mk hB7
      have HG7 := Aside0.mk hg7
      have HD7 := Aside0.mk hd7
      have HN7 := Aside0.mk hn7
      have HR7 := Aside0.mk (Kd.R_below hdr.row hB7)
      have e7 : ((wr.alloc (.cells #[.int .i64 0, .int .i64 0, .int .i64 0, .int .i64 0, .int .i64 0, .int .i64 0, .slice none 0 0, .slice none 0 0] 60)).setRow wr.heap.size #[.int .i64 1, .int .i64 0, .int .i64 0, .int .i64 0, .int .i64 0, .int .i64 0, .slice none 0 0, .slice none 0 0]).cell? ⟨w.heap.size, 7, none⟩ = some (.slice (some ⟨g, 0, none⟩) 2 2) := (blk_cell hn7 7).trans rfl
      have c0 : ((wr.alloc (.cells #[.int .i64 0, .int .i64 0, .int .i64 0, .int .i64 0, .int .i64 0, .int .i64 0, .slice none 0 0, .slice none 0 0] 60)).setRow wr.heap.size #[.int .i64 1, .int .i64 0, .int .i64 0, .int .i64 0, .int .i64 0, .int .i64 0, .slice none 0 0, .slice none 0 0]).cell? ⟨wr.heap.size, 0, none⟩ = some (.int .i64 1) := (blk_cell hg7 0).trans rfl
      have c1 : ((wr.alloc (.cells #[.int .i64 0, .int .i64 0, .int .i64 0, .int .i64 0, .int .i64 0, .int .i64 0, .slice none 0 0, .slice none 0 0] 60)).setRow wr.heap.size #[.int .i64 1, .int .i64 0, .int .i64 0, .int .i64 0, .int .i64 0, .int .i64 0, .slice none 0 0, .slice none 0 0]).cell? ⟨wr.heap.size, 1, none⟩ = some (.int .i64 0) := (blk_cell hg7 1).trans rfl
      have c2 : ((wr.alloc (.cells #[.int .i64 0, .int .i64 0, .int .i64 0, .int .i64 0, .int .i64 0, .int .i64 0, .slice none 0 0, .slice none 0 0] 60)).setRow wr.heap.size #[.int .i64 1, .int .i64 0, .int .i64 0, .int .i64 0, .int .i64 0, .int .i64 0, .slice none 0 0, .slice none 0 0]).cell? ⟨wr.heap.size, 2, none⟩ = some (.int .i64 0) := (blk_cell hg7 2).trans rfl
      have c3 : ((wr.alloc (.cells #[.int .i64 0, .int .i64 0, .int .i64 0, .int .i64 0, .int .i64 0, .int .i64 0, .slice none 0 0, .slice none 0 0] 60)).setRow wr.heap.size #[.int .i64 1, .int .i64 0, .int .i64 0, .int .i64 0, .int .i64 0, .int .i64 0, .slice none 0 0, .slice none 0 0]).cell? ⟨wr.heap.size, 3, none⟩ = some (.int .i64 0) := (blk_cell hg7 3).trans rfl
      have c4 : ((wr.alloc (.cells #[.int .i64 0, .int .i64 0, .int .i64 0, .int .i64 0, .int .i64 0, .int .i64 0, .slice none 0 0, .slice none 0 0] 60)).setRow wr.heap.size #[.int .i64 1, .int .i64 0, .int .i64 0, .int .i64 0, .int .i64 0, .int .i64 0, .slice none 0 0, .slice none 0 0]).cell? ⟨wr.heap.size, 4, none⟩ = some (.int .i64 0) := (blk_cell hg7 4).trans rfl
      have c5 : ((wr.alloc (.cells #[.int .i64 0, .int .i64 0, .int .i64 0, .int .i64 0, .int .i64 0, .int .i64 0, .slice none 0 0, .slice none 0 0] 60)).setRow wr.heap.size #[.int .i64 1, .int .i64 0, .int .i64 0, .int .i64 0, .int .i64 0, .int .i64 0, .slice none 0 0, .slice none 0 0]).cell? ⟨wr.heap.size, 5, none⟩ = some (.int .i64 0) := (blk_cell hg7 5).trans rfl
      have c6 : ((wr.alloc (.cells #[.int .i64 0, .int .i64 0, .int .i64 0, .int .i64 0, .int .i64 0, .int .i64 0, .slice none 0 0, .slice none 0 0] 60)).setRow wr.heap.size #[.int .i64 1, .int .i64 0, .int .i64 0, .int .i64 0, .int .i64 0, .int .i64 0, .slice none 0 0, .slice none 0 0]).cell? ⟨wr.heap.size, 6, none⟩ = some (.slice none 0 0) := (blk_cell hg7 6).trans rfl
      have c7 : ((wr.alloc (.cells #[.int .i64 0, .int .i64 0, .int .i64 0, .int .i64 0, .int .i64 0, .int .i64 0, .slice none 0 0, .slice none 0 0] 60)).setRow wr.heap.size #[.int .i64 1, .int .i64 0, .int .i64 0, .int .i64 0, .int .i64 0, .int .i64 0, .slice none 0 0, .slice none 0 0]).cell? ⟨wr.heap.size, 7, none⟩ = some (.slice none 0 0) := (blk_cell hg7 7).trans rfl
      clear hgw hz hg7 hB7 hd7 hn7 hdr
      go_wp2_with ((with_reducible refine gate_store (t := 60) (p := 11) (v := .tmp 57) rfl ?_); refine wpList_store_row rfl 60 (.tmp 11) (.tmp 57) rfl wr.heap.size #[.int .i64 1, .int .i64 0, .int .i64 0, .int .i64 0, .int .i64 0, .int .i64 0, .slice none 0 0, .slice none 0 0] rfl rfl 60 _ HZ7.out (by rw [hi8]; rfl) rfl (by kernel_rfl) ?_; generalize hW7 : ((wr.alloc (.cells #[.int .i64 0, .int .i64 0, .int .i64 0, .int .i64 0, .int .i64 0, .int .i64 0, .slice none 0 0, .slice none 0 0] 60)).setRow wr.heap.size #[.int .i64 1, .int .i64 0, .int .i64 0, .int .i64 0, .int .i64 0, .int .i64 0, .slice none 0 0, .slice none 0 0]) = w7 at HB7 HG7 HD7 HN7 HR7 e7 c0 c1 c2 c3 c4 c5 c6 c7 ⊢; clear hW7)
      clear q0 q1 q2 q3 q4 q5 q6 q7 e7 c0 c1 c2 c3 c4 c5 c6 c7
      have HDR8 : Dr w7 d v 3 [wireOf 0 2] := ⟨HD7.out, HR7.out⟩
      have HN8 : w7.heap[w.heap.size]? = some (.cells (cellsS g) 60) := HN7.out
      have HB8 : Below d w0 w7 := HB.out.trans (HB7.out.mono (Nat.le_of_lt (Nat.lt_of_lt_of_le HD.out (Nat.le_trans HB0.out.size HB.out.size))))
      refine (lay_contact w7 d v 3 [wireOf 0 2] 2 1 HDR8 (by decide)).mono ?_
      rintro e w9 ⟨rfl, hB9, hK9, v', hDr9⟩
      have HDR9 := Aside0.mk hDr9
      have HB9 := Aside0.mk (HB8.trans hB9)
      have HN9 : Aside0 (w9.heap[w.heap.size]? = some (.cells (cellsS g) 60)) := ⟨(hK9.2 _ (blk_lt HN8) (Nat.ne_of_gt HD.out) (by obtain ⟨inner, ho⟩ := Kd.R_own HDR8.row; exact own_ne ho HN8 (by decide))).trans HN8⟩
      clear hDr9 hB9 hK9 HDR8 HN8 HB8 HB7 HG7 HD7 HN7 HR7 HZ7 HDR HB HN
      go_wp2_with fail
      go_roundw
      case rel => exact ⟨2, v', rfl, rfl, by decide, HDR9, HB9, HN9⟩
      case measure => simp [intOf]
    · have m0 : wr.cell? ⟨w.heap.size, 0, none⟩ = _ := (blk_cell HN.out 0).trans rfl
      go_wp2_with fail
      go_end0
      exact ⟨rfl, (HB0.out.mono (Nat.le_of_lt HD.out)).trans HB.out, v, HDR.out⟩
end Go.Proofs.Ytnfnhgikhkpidaa.Given
end

section
/- Printed by a program of this session (wip/pg.py, over the print of the kit): functions, their Lean twins, and the proofs that the calls come to them; each under the conditions that it names. -/
namespace Go.Proofs.Ytnfnhgikhkpidaa.PPo

open Go.RowKit Go.Proofs.YtnfnhgikhkpidaaW.PrintWords Go.Proofs.YtnfnhgikhkpidaaW.PrintLast Go.Proofs.YtnfnhgikhkpidaaW.PrintMore
attribute [local go_sem] max2_int min2_int max_two min_two max_three min_three max_four min_four   -- for this text's walks alone
set_option linter.unusedVariables false
set_option linter.unusedSimpArgs false



def errW : Option Int → Value
  | none => .nilIface
  | some c => .iface 0 (.int .i64 c)
theorem errW_none : errW none = .nilIface := rfl
theorem errW_some (c : Int) : errW (some c) = .iface 0 (.int .i64 c) := rfl

-- the values' own types

end Go.Proofs.Ytnfnhgikhkpidaa.PPo
end

section
/- Printed by a program of this session (wip/pg.py, over the print of the kit): functions, their Lean twins, and the proofs that the calls come to them; each under the conditions that it names. -/
namespace Go.Proofs.Ytnfnhgikhkpidaa.PPo

open Go.RowKit Go.Proofs.YtnfnhgikhkpidaaW.PrintWords Go.Proofs.YtnfnhgikhkpidaaW.PrintLast Go.Proofs.YtnfnhgikhkpidaaW.PrintMore
attribute [local go_sem] max2_int min2_int max_two min_two max_three min_three max_four min_four   -- for this text's walks alone
set_option linter.unusedVariables false
set_option linter.unusedSimpArgs false

/-! ### power_of: function 28 -/
def power_of.f (a0 : Int) (a1 : Int) : Option (Int × Int) := some (mn a0 a1, mx a0 a1)
set_option maxHeartbeats 8000000 in
set_option maxRecDepth 100000 in
theorem power_of.calls (a0 : Int) (a1 : Int) (r1 : Int) (r2 : Int) (w : World) (h : power_of.f a0 a1 = some (r1, r2)) :
    Calls Try.prog 28 #[.int .i64 a0, .int .i64 a1] w fun e w' => e = .returned (.agg #[.int .i64 r1, .int .i64 r2]) ∧ Below w.heap.size w w' := by
  have hu66 := Try.underlying66
  have HB := Aside0.mk (Below.refl w.heap.size w)
  have H : (some (mn a0 a1, mx a0 a1)) = some (r1, r2) := h
  clear h
  obtain ⟨ji3, hji3⟩ : ∃ j_ : Int, (mn a0 a1) = j_ := ⟨_, rfl⟩
  replace H : (some (ji3, mx a0 a1)) = some (r1, r2) := by first | (rw [hji3] at H; exact H) | (simp only [hji3] at H ⊢; exact H)
  have hji3_ : (if a1 < a0 then a1 else a0) = ji3 := hji3
  obtain ⟨ji4, hji4⟩ : ∃ j_ : Int, (mx a0 a1) = j_ := ⟨_, rfl⟩
  replace H : (some (ji3, ji4)) = some (r1, r2) := by first | (rw [hji4] at H; exact H) | (simp only [hji4] at H ⊢; exact H)
  have hji4_ : (if a0 < a1 then a1 else a0) = ji4 := hji4
  simp only [Option.some.injEq, Prod.mk.injEq] at H
  obtain ⟨rfl, rfl⟩ := H
  go_enter Try.func28, Try.ntmps28
  go_wp2_with (first | ((with_reducible refine gate_dst (N := 4) rfl ?_); refine box_event ?hg (N := 4) ?hd (cs := #[.int .i64 0, .int .i64 0]) (t := 66) ?hr ?_; (case hd => rfl); (case hg => rfl); (case hr => first | (go_simp; done) | (go_simp; rfl)); intro gb101 hg w5 hbox hb; have n0_ := Aside0.mk (below_step (by repeat (first | (with_reducible first | exact HB.out | apply below_alloc | apply pw_below_drewN | apply below_drew1) | exact HB.out)) hb); have n1_ := Aside0.mk (hbox); have n2_ := Aside0.mk ((by rw [hg]; exact (below_size (by repeat (first | (with_reducible first | exact HB.out | apply below_alloc | apply pw_below_drewN | apply below_drew1) | exact HB.out))) : w.heap.size ≤ gb101)); have n3_ := Aside0.mk ((by rw [hg]; exact (below_size (by repeat (first | (with_reducible first | exact HB.out | apply below_alloc | apply pw_below_drewN | apply below_drew1) | exact HB.out))) : w.heap.size ≤ gb101)); clear HB; have HB := n0_; have BK101 := n1_; have GW101 := n2_; have GE101 := n3_; clear n0_ n1_ n2_ n3_; clear hb hbox hg; have hcz6_0 : w5.cell? ⟨gb101, 0, none⟩ = some (.int .i64 0) := (blk_cell BK101.out 0).trans rfl; have hcz6_1 : w5.cell? ⟨gb101, 1, none⟩ = some (.int .i64 0) := (blk_cell BK101.out 1).trans rfl; have hfz6_0 := blk_frozen BK101.out 0; have hfz6_1 := blk_frozen BK101.out 1))
  refine bodyPost_ret (results_cell_row rfl _ _ gb101 66 #[.int .i64 ji3, .int .i64 ji4] (0, 0) _ rfl (by (with_reducible repeat (first | refine blk_drewN ?_ _ | refine blk_drew ?_ | refine blk_alloc ?_ _)); refine blk_put (cs := #[.int .i64 ji3, .int .i64 0]) ?_ 1 _ rfl; (with_reducible repeat (first | refine blk_drewN ?_ _ | refine blk_drew ?_ | refine blk_alloc ?_ _)); refine blk_put (cs := #[.int .i64 0, .int .i64 0]) ?_ 0 _ rfl; (with_reducible repeat (first | refine blk_drewN ?_ _ | refine blk_drew ?_ | refine blk_alloc ?_ _)); exact BK101.out) Try.underlying66 rfl (by kernel_rfl)) rfl ?_
  exact ⟨by first | rfl | (simp [errW_none, errW_some] <;> rfl) | (simp only [← hji3, ← hji4]; first | rfl | (simp [errW_none, errW_some] <;> rfl)) | (simp [*, errW_none, errW_some] <;> rfl), by repeat (first | (with_reducible first | exact HB.out | apply below_alloc | apply pw_below_drewN | apply below_drew1 | refine below_set ?_ GE101.out) | exact HB.out)⟩

end Go.Proofs.Ytnfnhgikhkpidaa.PPo
end
