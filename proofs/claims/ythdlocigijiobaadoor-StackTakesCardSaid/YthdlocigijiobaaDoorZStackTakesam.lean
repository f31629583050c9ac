/- The law StackTakes holds for every input: the walk over its code shows that the call returns true and that what was read stays as it was; the row follows. The package-level tables that the code reads are tied to the program's text by the given tie. -/
import Derived.Test.YthdlocigijiobaaDoorRows
import Derived.Test.YthdlocigijiobaaDoorCards
import Derived.Test.YthdlocigijiobaaDoorTie
import Derived.WalkKit
import Derived.ProofKit
import Derived.OpenShut
import Derived.ShutString
import Derived.ChangeOld
import Derived.Below
import Derived.SizedLaws
import Derived.Deep.DeepHandedRow
import Derived.Lib.LaidTab
import Derived.LaidMore
import Derived.Test.YthdlocigijiobaaDoorZStackTakesaa
import Derived.Test.YthdlocigijiobaaDoorZStackTakesal
section
/- StackTakes over programs that are read as data; the tables as the program lays them. -/
namespace Go.Proofs.YthdlocigijiobaaDoor
open Go Go.RowKit Go.Proofs.YthdlocigijiobaaDoorW.PrintWords Go.Proofs.YthdlocigijiobaaDoor.PSk Go.Proofs.YthdlocigijiobaaDoor.Given
set_option linter.unusedVariables false
namespace SkRow
theorem laidOps_of {l : List (String × DataW Unit)} {w : World} (h : laidMetH Tryd.prog l w) (hp : (l.filter fun x => x.2.handleName?.isSome) = []) (hm : ("ladderback/op.rows", Rows.laid_ladderback_op_rows) ∈ l) : LaidOps w := by
  have hv := Flat.varIs (name := "ladderback/op.rows") (D := Rows.laid_ladderback_op_rows) (vs := opsV) (g := 0) (t := 73) 6 h hp hm (by kernel_rfl) (by kernel_rfl) (by kernel_rfl) (by rfl)
  intro i v hi
  rw [hv.cell (by kernel_rfl), hi]
theorem laidGoes_of {l : List (String × DataW Unit)} {w : World} (h : laidMetH Tryd.prog l w) (hp : (l.filter fun x => x.2.handleName?.isSome) = []) (hm : ("ladderback/alu.goes", Rows.laid_ladderback_alu_goes) ∈ l) : LaidGoes w := by
  have hv := Flat.varIs (name := "ladderback/alu.goes") (D := Rows.laid_ladderback_alu_goes) (vs := nums .i64 goesV) (g := 1) (t := 74) 6 h hp hm (by kernel_rfl) (by kernel_rfl) (by kernel_rfl) (by rfl)
  intro i v hi
  rw [hv.cell (by kernel_rfl), hi]
set_option maxRecDepth 100000 in
theorem laidBlk_of {l : List (String × DataW Unit)} {w : World} (h : laidMetH Tryd.prog l w) (hp : (l.filter fun x => x.2.handleName?.isSome) = []) (hm : ("ladderback/block.rows", Rows.laid_ladderback_block_rows) ∈ l) : LaidBlk w := by
  have hv := Flat.varIs (name := "ladderback/block.rows") (D := Rows.laid_ladderback_block_rows) (vs := blkV) (g := 2) (t := 83) 8 h hp hm (by kernel_rfl) (by kernel_rfl) (by kernel_rfl) (by rfl)
  intro i v hi
  rw [hv.cell (by kernel_rfl), hi]
theorem laid_of {l : List (String × DataW Unit)} {w : World} (h : laidMetH Tryd.prog l w) (hp : (l.filter fun x => x.2.handleName?.isSome) = []) (h1 : ("ladderback/op.rows", Rows.laid_ladderback_op_rows) ∈ l) (h2 : ("ladderback/alu.goes", Rows.laid_ladderback_alu_goes) ∈ l) (h3 : ("ladderback/block.rows", Rows.laid_ladderback_block_rows) ∈ l) : LaidAll w :=
  ⟨laidOps_of h hp h1, laidGoes_of h hp h2, laidBlk_of h hp h3⟩
theorem rd_int : Bridge.Rdga Tryd.prog 3 (Kd.int .i64) (fun a => (Lit.int .i64 a).wf = true) := Bridge.Rdg.int Tryd.underlying3 (by kernel_rfl)
theorem rd_ints : Bridge.Rdga Tryd.prog 40 (Kd.slice 3 (Kd.int .i64)) (fun l => ∀ a ∈ l, (Lit.int .i64 a).wf = true) := Bridge.Rdg.slicea Tryd.underlying40 (by kernel_rfl) rd_int
theorem rd_str : Bridge.Rdga Tryd.prog 9 Kd.string (fun s => s.size ≤ 9223372036854775807) := Bridge.Rdg.string Tryd.underlying9 (by kernel_rfl)
theorem rd_instr : Bridge.Rdga Tryd.prog 29 k29 (fun _ => True) := fun m =>
  Bridge.Rdg.imp (Bridge.Rdg.iso (fun x : S29 => (x.f0, x.f1, x.f2)) (fun p => ⟨p.1, p.2.1, p.2.2⟩) (fun _ => rfl)
    (Bridge.Rdg.structa Tryd.underlying29 (by kernel_rfl) (fun m => Bridge.RdgF.cons rfl (rd_int m) (Bridge.RdgF.cons rfl (rd_int m) (Bridge.RdgF.one rfl (rd_int m)))) m)) (fun _ _ => trivial)
theorem rd_const : Bridge.Rdga Tryd.prog 35 k35 (fun _ => True) := fun m =>
  Bridge.Rdg.imp (Bridge.Rdg.iso (fun x : S35 => (x.f0, x.f1)) (fun p => ⟨p.1, p.2⟩) (fun _ => rfl)
    (Bridge.Rdg.structa Tryd.underlying35 (by kernel_rfl) (fun m => Bridge.RdgF.cons rfl (rd_int m) (Bridge.RdgF.one rfl (rd_int m))) m)) (fun _ _ => trivial)
theorem rd_var : Bridge.Rdga Tryd.prog 37 k37 (fun _ => True) := fun m =>
  Bridge.Rdg.imp (Bridge.Rdg.iso (fun x : S37 => (x.f0, x.f1, x.f2, x.f3, x.f4)) (fun p => ⟨p.1, p.2.1, p.2.2.1, p.2.2.2.1, p.2.2.2.2⟩) (fun _ => rfl)
    (Bridge.Rdg.structa Tryd.underlying37 (by kernel_rfl) (fun m => Bridge.RdgF.cons rfl (rd_str m) (Bridge.RdgF.cons rfl (rd_int m) (Bridge.RdgF.cons rfl (rd_int m) (Bridge.RdgF.cons rfl (rd_int m) (Bridge.RdgF.one rfl (rd_int m)))))) m)) (fun _ _ => trivial)
theorem rd_block : Bridge.Rdga Tryd.prog 39 k39 (fun _ => True) := fun m =>
  Bridge.Rdg.imp (Bridge.Rdg.iso (fun x : S39 => (x.f0, x.f1)) (fun p => ⟨p.1, p.2⟩) (fun _ => rfl)
    (Bridge.Rdg.structa Tryd.underlying39 (by kernel_rfl) (fun m => Bridge.RdgF.cons rfl (rd_str m) (Bridge.RdgF.one rfl (rd_int m))) m)) (fun _ _ => trivial)
theorem rd_instrs : Bridge.Rdga Tryd.prog 41 (Kd.slice 29 k29) (fun l => ∀ a ∈ l, True) := Bridge.Rdg.slicea Tryd.underlying41 (by kernel_rfl) rd_instr
theorem rd_unit : Bridge.Rdga Tryd.prog 43 k43 (fun _ => True) := fun m =>
  Bridge.Rdg.imp (Bridge.Rdg.iso (fun x : S43 => (x.f0, x.f1, x.f2, x.f3, x.f4)) (fun p => ⟨p.1, p.2.1, p.2.2.1, p.2.2.2.1, p.2.2.2.2⟩) (fun _ => rfl)
    (Bridge.Rdg.structa Tryd.underlying43 (by kernel_rfl) (fun m => Bridge.RdgF.cons rfl (rd_str m) (Bridge.RdgF.cons rfl (rd_ints m) (Bridge.RdgF.cons rfl (rd_int m) (Bridge.RdgF.cons rfl (rd_ints m) (Bridge.RdgF.one rfl (rd_instrs m)))))) m)) (fun _ _ => trivial)
/-- A program as data: its constants, variables, blocks, units. -/
def KProg : Kd (List S35 × List S37 × List S39 × List S43) := Kd.pair (Kd.slice 35 k35) (Kd.pair (Kd.slice 37 k37) (Kd.pair (Kd.slice 39 k39) (Kd.slice 43 k43)))
theorem rd_prog : Bridge.Rdga Tryd.prog 27 KProg (fun _ => True) := fun m => Bridge.Rdg.imp ((Bridge.Rdg.structa Tryd.underlying27 (by kernel_rfl) (fun m => Bridge.RdgF.cons rfl (Bridge.Rdg.slicea Tryd.underlying22 (by kernel_rfl) rd_const m) (Bridge.RdgF.cons rfl (Bridge.Rdg.slicea Tryd.underlying23 (by kernel_rfl) rd_var m) (Bridge.RdgF.cons rfl (Bridge.Rdg.slicea Tryd.underlying24 (by kernel_rfl) rd_block m) (Bridge.RdgF.one rfl (Bridge.Rdg.slicea Tryd.underlying25 (by kernel_rfl) rd_unit m)))))) m) (fun _ _ => trivial)
theorem prog_of {w : World} {x : List S35 × List S37 × List S39 × List S43} {cs : Array Value} (h : KProg.K w x cs.toList) : ∃ A0 c0 A1 c1 A2 c2 A3 c3, cs = #[.slice A0 x.1.length c0, .slice A1 x.2.1.length c1, .slice A2 x.2.2.1.length c2, .slice A3 x.2.2.2.length c3] ∧ (Kd.C k35 w A0 x.1.length x.1 ∧ x.1.length ≤ c0) ∧ (Kd.C k37 w A1 x.2.1.length x.2.1 ∧ x.2.1.length ≤ c1) ∧ (Kd.C k39 w A2 x.2.2.1.length x.2.2.1 ∧ x.2.2.1.length ≤ c2) ∧ (Kd.C k43 w A3 x.2.2.2.length x.2.2.2 ∧ x.2.2.2.length ≤ c3) := by
  obtain ⟨C, V, B, U⟩ := x
  obtain ⟨_, _, h0, ⟨A0, c0, rfl, l0, g0⟩, _, _, rfl, ⟨A1, c1, rfl, l1, g1⟩, _, _, rfl, ⟨A2, c2, rfl, l2, g2⟩, ⟨A3, c3, rfl, l3, g3⟩⟩ := h
  refine ⟨A0, c0, A1, c1, A2, c2, A3, c3, ?_, ⟨g0, l0⟩, ⟨g1, l1⟩, ⟨g2, l2⟩, ⟨g3, l3⟩⟩
  rw [show cs = cs.toList.toArray by simp, h0]
  rfl
theorem instr_of {w : World} {x : S29} {cs : Array Value} (h : k29.K w x cs.toList) : cs = #[.int .i64 x.f0, .int .i64 x.f1, .int .i64 x.f2] := by
  have := k29_open h
  rw [show cs = cs.toList.toArray by simp, this]
end SkRow
theorem StackTakes_walk (cs : Array Value) (x : List S35 × List S37 × List S39 × List S43) (u : Int) (ci : Array Value) (i : S29) (w : World) (hk : SkRow.KProg.K w x cs.toList) (wf : True) (wu : (Lit.int .i64 u).wf = true) (hi : k29.K w i ci.toList) (wi : True) (hL : laidMetH Tryd.prog Rows.stackTakesRow.laid w) :
    Calls Tryd.prog 5 #[.agg cs, .int .i64 u, .agg ci] w fun e w' => e = .returned (.bool true) ∧ Below w.heap.size w w' := by
  obtain ⟨A0, c0, A1, c1, A2, c2, A3, c3, rfl, ⟨g0, l0⟩, ⟨g1, l1⟩, ⟨g2, l2⟩, ⟨g3, l3⟩⟩ := SkRow.prog_of hk
  obtain rfl := SkRow.instr_of hi
  exact RPure.stackTakes_w A0 c0 x.1 A1 c1 x.2.1 A2 c2 x.2.2.1 A3 c3 x.2.2.2 u i.f0 i.f1 i.f2 w g0 l0 g1 l1 g2 l2 g3 l3 (SkRow.laid_of hL rfl (by simp [Rows.stackTakesRow]) (by simp [Rows.stackTakesRow]) (by simp [Rows.stackTakesRow]))
end Go.Proofs.YthdlocigijiobaaDoor
end

section
/- The law StackTakes holds for every input: the walk over its code shows that the call returns true and that what was read stays as it was; the row follows. The package-level tables that the code reads are tied to the program's text by the given tie. -/
namespace Go.Proofs.YthdlocigijiobaaDoor.stackTakesRw
open Go.ChangeShapes Go.WideShapes Go.ChangeAt Go.RowKit
open Go.ChangeMaps (open_string shut_string)
open Go.Proofs.YthdlocigijiobaaDoor.Bridge
set_option linter.unusedVariables false
set_option linter.unusedSimpArgs false
theorem own : ownKnob Tryd.prog.godebug = none := by kernel_rfl
theorem laidOut : laidOutB Tryd.prog = true := by kernel_rfl
theorem contract (H : Type) (enc : TypeId × Value → H) (W : World) (base : Nat) (args : Array Value) (ds gs : List (DataW H)) (before : List MemPlace)
    (hval : ∀ (j : Nat) t v, Tryd.f5.params[j]? = some t → args[j]? = some v → Value.okWide Tryd.prog W .any base t v)
    (hW : DataW.Whole enc Tryd.prog Tryd.f5.params.toList Rows.stackTakesSpec.vars false W args.toList ds gs before) (hsz : (DataW.weightsEach Tryd.prog (Tryd.f5.params.toList ++ Rows.stackTakesSpec.plain.varTypes Tryd.prog) (ds ++ gs)).all (· ≤ reachBytes) = true) (hL : laidMetH Tryd.prog Rows.stackTakesRow.laid W) :
    Calls Tryd.prog 5 args W fun e W' => ∃ v, e = .returned v ∧ Rows.stackTakesSpec.post enc Tryd.prog Tryd.f5 false true false false W args v W' := by
  have hW' := hW
  obtain ⟨p, q, hA0, hV, rfl, hfz, hnd⟩ := hW
  have hA : DataW.TrodAll enc Tryd.prog W 0 (fun _ => true) true Tryd.f5.params.toList args.toList ds p := hA0
  rw [Tryd.params5] at hA hval hsz
  obtain ⟨v0, vs0, d0, ds0, p0, q0, hargs, rfl, rfl, h0, r0⟩ := trodAll_cons hA
  obtain ⟨v1, vs1, d1, ds1, p1, q1, rfl, rfl, rfl, h1, r1⟩ := trodAll_cons r0
  obtain ⟨v2, vs2, d2, ds2, p2, q2, rfl, rfl, rfl, h2, r2⟩ := trodAll_cons r1
  obtain ⟨rfl, rfl, rfl⟩ := trodAll_nil r2
  obtain rfl : args = #[v0, v1, v2] := by cases args; simp_all
  obtain ⟨rfl, rfl⟩ := trodVars_none hV
  clear hA0
  have k0 := h0
  have lt0 : ∀ x ∈ p0, x.block < W.heap.size := by obtain ⟨m, hm⟩ := k0; exact DataW.trod_lt m _ _ _ hm
  obtain ⟨cs0, rfl⟩ : ∃ cs, v0 = .agg cs := by
    have z := (hval 0 27 v0 rfl rfl)
    unfold Value.okWide at z
    rw [Tryd.underlying27] at z
    obtain ⟨cs, e, _⟩ := z
    exact ⟨cs, e⟩
  obtain ⟨x0, hk0, wf0⟩ := Rdga.trod SkRow.rd_prog h0
  have k1 := h1
  have lt1 : ∀ x ∈ p1, x.block < W.heap.size := by obtain ⟨m, hm⟩ := k1; exact DataW.trod_lt m _ _ _ hm
  obtain ⟨a1, rfl, _, _, w1⟩ := open_int Tryd.underlying3 (hval 1 3 v1 rfl rfl) h1
  have k2 := h2
  have lt2 : ∀ x ∈ p2, x.block < W.heap.size := by obtain ⟨m, hm⟩ := k2; exact DataW.trod_lt m _ _ _ hm
  obtain ⟨cs2, rfl⟩ : ∃ cs, v2 = .agg cs := by
    have z := (hval 2 29 v2 rfl rfl)
    unfold Value.okWide at z
    rw [Tryd.underlying29] at z
    obtain ⟨cs, e, _⟩ := z
    exact ⟨cs, e⟩
  obtain ⟨x2, hk2, wf2⟩ := Rdga.trod SkRow.rd_instr h2
  refine (StackTakes_walk cs0 x0 a1 cs2 x2 W hk0 wf0 w1 hk2 wf2 hL).mono fun e W' ⟨he, bel⟩ => ?_
  subst he
  exact ⟨_, rfl, _, _, _, [], _, [], hW', trodAll_mk1 (shut_bool Tryd.underlying4 _), (trodAll_cons_mk (Below.trod laidOut (by kernel_rfl) (of_decide_eq_true (by kernel_rfl)) k0 bel lt0) (trodAll_cons_mk (Below.trod laidOut (by kernel_rfl) (of_decide_eq_true (by kernel_rfl)) k1 bel lt1) (trodAll_cons_mk (Below.trod laidOut (by kernel_rfl) (of_decide_eq_true (by kernel_rfl)) k2 bel lt2) trodAll_mk0))), rfl, bel.frame _, fun h => by cases h⟩
theorem laid_met (os : Os) : laidMetH Tryd.prog Rows.stackTakesRow.laid ((World.doorLaid Tryd.prog 4000 os).forCall (fun _ _ => 0) ⟨#[], #[.agg #[.slice none 0 0, .slice none 0 0, .slice none 0 0, .slice none 0 0], .int .i64 0, .agg #[.int .i64 0, .int .i64 0, .int .i64 0]], []⟩).memory :=
  laidMetH_of_parts3 (fuel := 12) (laidMet_of_run' 12 (by kernel_rfl) (by kernel_rfl)) (by kernel_rfl) (by kernel_rfl)
theorem reads (os : Os) {H : Type} (enc : TypeId × Value → H) : ∃ ds places, DataW.whole enc Tryd.prog ((World.doorLaid Tryd.prog 4000 os).forCall (fun _ _ => 0) ⟨#[], #[.agg #[.slice none 0 0, .slice none 0 0, .slice none 0 0, .slice none 0 0], .int .i64 0, .agg #[.int .i64 0, .int .i64 0, .int .i64 0]], []⟩).memory Tryd.f5.params.toList Rows.stackTakesSpec.vars false (#[.agg #[.slice none 0 0, .slice none 0 0, .slice none 0 0, .slice none 0 0], .int .i64 0, .agg #[.int .i64 0, .int .i64 0, .int .i64 0]] : Array Value).toList 8 = some (ds, [], places) :=
  ⟨[.agg [.nil, .nil, .nil, .nil], .lit (.int .i64 0), .agg [.lit (.int .i64 0), .lit (.int .i64 0), .lit (.int .i64 0)]], [], by kernel_rfl⟩
set_option maxRecDepth 100000 in
theorem lifted (os : Os) (started : os.Started) (H : Type) (enc : TypeId × Value → H) (F : Stop.Interp) :
    ReturnsInHanded {} Tryd.checked os 5 .any ((OpenSpec.ofChange Rows.stackTakesSpec).preRow enc Tryd.prog Tryd.f5 Rows.stackTakesRow.domain false Rows.stackTakesRow.laid) (((OpenSpec.ofChange Rows.stackTakesSpec).at F).post enc Tryd.prog Tryd.f5 false true false false) := by
  obtain ⟨ds, places, hx⟩ := reads os enc
  refine returnsInHanded_of_row (C := Tryd.checked) (s := OpenSpec.ofChange Rows.stackTakesSpec) own started (by kernel_rfl) Tryd.func5
    (witness_row_at (enc := enc) (C := Tryd.checked) false (World.doorLaid Tryd.prog 4000 os) #[.agg #[.slice none 0 0, .slice none 0 0, .slice none 0 0, .slice none 0 0], .int .i64 0, .agg #[.int .i64 0, .int .i64 0, .int .i64 0]] rfl (by kernel_rfl) (by kernel_rfl) (by kernel_rfl)
      (OpenSpec.preRow_of_cond 8 hx (by kernel_rfl) (fun k hk => by cases hk) (by kernel_rfl) (laid_met os))) ?_
  intro W base args ds gs before hval hW _ _ hsz hL _ _
  exact contract H enc W base args ds gs before hval hW hsz hL
theorem said : Rows.StackTakesSaid :=
  OpenClaim.holds_of_cond 5 Tryd.f5 rfl rfl rfl rfl rfl rfl rfl ⟨rfl, rfl, rfl, rfl, rfl⟩ rfl rfl rfl rfl rfl (by kernel_rfl) Tryd.func5 (by kernel_rfl)
    (of_decide_eq_true (by kernel_rfl)) (by unfold Func.isWrapper; first | (rw [if_pos (by decide +kernel)]; kernel_rfl) | (rw [if_neg (by decide +kernel)]; exact ⟨rfl, rfl⟩))
    (fun os started H enc _ F => by rw [OpenClaim.pre_eq_preRow]; exact lifted os started H enc F)
theorem plain (f : FuncId) (fn : Func) (hf : Tryd.pinned.checked.prog.funcNamed "ladderback/ladderbacklaw19.StackTakes" = some f) (hfn : Tryd.pinned.checked.prog.funcs[f]? = some fn) :
    false = Tryd.pinned.checked.prog.looks [] ∧ ∀ (j : Nat) t, fn.params[j]? = some t → Tryd.pinned.checked.prog.wantsStandIn t = false := by
  obtain rfl : f = 5 := Option.some.inj ((show Tryd.prog.funcNamed "ladderback/ladderbacklaw19.StackTakes" = some 5 by kernel_rfl).symm.trans hf) |>.symm
  obtain rfl : fn = Tryd.f5 := (Option.some.inj (Tryd.func5.symm.trans hfn)).symm
  refine ⟨by kernel_rfl, fun j t ht => ?_⟩
  rw [Tryd.params5] at ht
  have hm : t ∈ [27, 3, 29] := by simpa using Array.mem_of_getElem? ht
  have hall : ([27, 3, 29].all fun u => !Tryd.prog.wantsStandIn u) = true := by kernel_rfl
  exact (show Tryd.prog.wantsStandIn t = false by simpa using List.all_eq_true.1 hall t hm)
theorem card : Rows.StackTakesCardSaid :=
  Claim7.holds_tied_plain_at .later [] _ _ _ _ said (fun _ h => by cases h) (by kernel_rfl) (fun _ h => by cases h) stackTakes_row_tie rfl ⟨rfl, rfl⟩ (by kernel_rfl) rfl plain (by kernel_rfl)
end Go.Proofs.YthdlocigijiobaaDoor.stackTakesRw
namespace Go.Proofs.YthdlocigijiobaaDoor
theorem stackTakes_holds : Rows.StackTakesCardSaid := stackTakesRw.card
#print axioms stackTakes_holds
end Go.Proofs.YthdlocigijiobaaDoor
end
