/- The law BitsJoin holds for every input: the walk over its code shows that the call returns true and that what was read stays as it was; the row follows. The package-level tables that the code reads are tied to the program's text by the given tie. -/
import Derived.Test.YtkkikddocgckbaaDoorProg
import Derived.Test.YtkkikddocgckbaaDoorRows
import Derived.Test.YtkkikddocgckbaaDoorCards
import Derived.Test.YtkkikddocgckbaaDoorTie
import Derived.WalkKit
import Derived.ProofKit
import Derived.OpenShut
import Derived.ShutString
import Derived.ChangeOld
import Derived.Below
import Derived.SizedLaws
import Derived.Deep.DeepHandedRow
import Derived.Lib.LaidTab
import Derived.LaidMore
import Derived.Test.YtkkikddocgckbaaDoorZBitsJoinaa
import Derived.Test.YtkkikddocgckbaaDoorZBitsJoinab
import Derived.Test.YtkkikddocgckbaaDoorZBitsJoinag
section
/- Arrays as data are read as lists of so many; and a block of ten numbers as ten numbers; no conditions. -/
namespace Go.Proofs.YtkkikddocgckbaaDoor.Bridge
open Go Go.RowKit Go.Proofs.YtkkikddocgckbaaDoorW.PrintWords
variable {P : Program} {t e n : Nat} {α : Type} {d : Kd α} {wf : α → Prop}
theorem Rdg.array {m : Nat} {hs : 0 < d.sz} (hu : P.underlying t = some (.array n e)) (hc : P.cellsOf t = n * d.sz) (hd : Rdg P m e d wf) : Rdg P (m + 1) t (Kd.arr n d hs) (fun l => ∀ a ∈ l, wf a) := by
  refine ⟨hc, fun H enc w base sp held fuel hm cs x h => ?_⟩
  cases fuel with
  | zero => simp [DataW.trod] at h
  | succ fuel =>
    unfold DataW.trod at h
    rw [hu] at h
    simp only at h
    split at h
    · rename_i hl
      obtain ⟨elems, hel, _⟩ := Option.map_eq_some_iff.1 h
      have key : ∀ i, i < n → ∃ p, d.K w p ((cs.drop (i * d.sz)).take d.sz) ∧ wf p := by
        intro i hi
        obtain ⟨b, _, hf⟩ := Lib.mapM_at hel i i (by simp [hi])
        rw [hd.1] at hf
        obtain ⟨p, hp, hw⟩ := hd.2 H enc w base sp held fuel (by omega) _ b hf
        exact ⟨p, hp, hw⟩
      obtain ⟨xs, hxl, hx⟩ := pick_list n key
      refine ⟨xs, ⟨hxl, by rw [hl, hc, hxl], fun j p hj => (hx j p hj).1⟩, fun p hp => ?_⟩
      obtain ⟨j, hj⟩ := List.getElem?_of_mem hp
      exact (hx j p hj).2
    · cases h
theorem Rdg.arraya {hs : 0 < d.sz} (hu : P.underlying t = some (.array n e)) (hc : P.cellsOf t = n * d.sz) (hd : Rdga P e d wf) : Rdga P t (Kd.arr n d hs) (fun l => ∀ a ∈ l, wf a)
  | 0 => Rdg.zero hc
  | m + 1 => Rdg.array hu hc (hd m)
end Go.Proofs.YtkkikddocgckbaaDoor.Bridge
end

section
/- BitsJoin over two rooms and places that are read as data; the library's table as the program lays it. -/
namespace Go.Proofs.YtkkikddocgckbaaDoor
open Go Go.RowKit Go.Proofs.YtkkikddocgckbaaDoorW.PrintWords Go.Proofs.YtkkikddocgckbaaDoorW.PrintLast Go.Proofs.YtkkikddocgckbaaDoorW.PrintMore Go.Proofs.YtkkikddocgckbaaDoor.Given
set_option linter.unusedVariables false
theorem rd_two : Bridge.Rdga Tryd.prog 37 (Kd.arr 2 (Kd.int .i64) (by decide)) (fun l => ∀ a ∈ l, (Lit.int .i64 a).wf = true) :=
  Bridge.Rdg.arraya Tryd.underlying37 (by kernel_rfl) (Bridge.Rdg.int Tryd.underlying3 (by kernel_rfl))
theorem two_of {cs : Array Value} {x : List Int} {w : World} (hk : (Kd.arr 2 (Kd.int .i64) (by decide)).K w x cs.toList) : ∃ x0 x1, x = [x0, x1] ∧ cs = #[.int .i64 x0, .int .i64 x1] := by
  obtain ⟨hl, hc⟩ := Kd.arr_cells hk
  match x, hl with
  | [x0, x1], _ =>
    refine ⟨x0, x1, rfl, ?_⟩
    have : cs = cs.toList.toArray := by simp
    rw [this, hc]
    rfl
theorem BitsJoin_walk (cs : Array Value) (x : List Int) (A0 : Option Addr) (c0 : Nat) (x0 : List Int) (A1 : Option Addr) (c1 : Nat) (x1 : List Int) (w : World) (hk : (Kd.arr 2 (Kd.int .i64) (by decide)).K w x cs.toList) (wf : ∀ a ∈ x, (Lit.int .i64 a).wf = true) (hC0 : (Kd.int .i64).C w A0 x0.length x0) (hle0 : x0.length ≤ c0) (wf0 : ∀ a ∈ x0, (Lit.int .i64 a).wf = true) (hC1 : (Kd.int .i64).C w A1 x1.length x1) (hle1 : x1.length ≤ c1) (wf1 : ∀ a ∈ x1, (Lit.int .i64 a).wf = true) (hL : laidMetH Tryd.prog Rows.bitsJoinRow.laid w) :
    Calls Tryd.prog 4 #[.agg cs, .slice A0 x0.length c0, .slice A1 x1.length c1] w fun e w' => e = .returned (.bool true) ∧ Below w.heap.size w w' := by
  obtain ⟨r0, r1, rfl, rfl⟩ := two_of hk
  exact BPure.bitsJoin_w r0 r1 A0 c0 x0 A1 c1 x1 w hC0 hle0 hC1 hle1 (laidTz_of hL rfl (by simp [Rows.bitsJoinRow]))
end Go.Proofs.YtkkikddocgckbaaDoor
end

section
/- The law BitsJoin holds for every input: the walk over its code shows that the call returns true and that what was read stays as it was; the row follows. The package-level tables that the code reads are tied to the program's text by the given tie. -/
namespace Go.Proofs.YtkkikddocgckbaaDoor.bitsJoinRw
open Go.ChangeShapes Go.WideShapes Go.ChangeAt Go.RowKit
open Go.ChangeMaps (open_string shut_string)
open Go.Proofs.YtkkikddocgckbaaDoor.Bridge
set_option linter.unusedVariables false
set_option linter.unusedSimpArgs false
theorem own : ownKnob Tryd.prog.godebug = none := by kernel_rfl
theorem laidOut : laidOutB Tryd.prog = true := by kernel_rfl
theorem contract (H : Type) (enc : TypeId × Value → H) (W : World) (base : Nat) (args : Array Value) (ds gs : List (DataW H)) (before : List MemPlace)
    (hval : ∀ (j : Nat) t v, Tryd.f4.params[j]? = some t → args[j]? = some v → Value.okWide Tryd.prog W .any base t v)
    (hW : DataW.Whole enc Tryd.prog Tryd.f4.params.toList Rows.bitsJoinSpec.vars false W args.toList ds gs before) (hsz : (DataW.weightsEach Tryd.prog (Tryd.f4.params.toList ++ Rows.bitsJoinSpec.plain.varTypes Tryd.prog) (ds ++ gs)).all (· ≤ reachBytes) = true) (hL : laidMetH Tryd.prog Rows.bitsJoinRow.laid W) :
    Calls Tryd.prog 4 args W fun e W' => ∃ v, e = .returned v ∧ Rows.bitsJoinSpec.post enc Tryd.prog Tryd.f4 false true false false W args v W' := by
  have hW' := hW
  obtain ⟨p, q, hA0, hV, rfl, hfz, hnd⟩ := hW
  have hA : DataW.TrodAll enc Tryd.prog W 0 (fun _ => true) true Tryd.f4.params.toList args.toList ds p := hA0
  rw [Tryd.params4] at hA hval hsz
  obtain ⟨v0, vs0, d0, ds0, p0, q0, hargs, rfl, rfl, h0, r0⟩ := trodAll_cons hA
  obtain ⟨v1, vs1, d1, ds1, p1, q1, rfl, rfl, rfl, h1, r1⟩ := trodAll_cons r0
  obtain ⟨v2, vs2, d2, ds2, p2, q2, rfl, rfl, rfl, h2, r2⟩ := trodAll_cons r1
  obtain ⟨rfl, rfl, rfl⟩ := trodAll_nil r2
  obtain rfl : args = #[v0, v1, v2] := by cases args; simp_all
  obtain ⟨rfl, rfl⟩ := trodVars_none hV
  clear hA0
  have k0 := h0
  have lt0 : ∀ x ∈ p0, x.block < W.heap.size := by obtain ⟨m, hm⟩ := k0; exact DataW.trod_lt m _ _ _ hm
  obtain ⟨cs0, rfl⟩ : ∃ cs, v0 = .agg cs := by
    have z := (hval 0 37 v0 rfl rfl)
    unfold Value.okWide at z
    rw [Tryd.underlying37] at z
    obtain ⟨cs, e, _⟩ := z
    exact ⟨cs, e⟩
  obtain ⟨x0, hk0, wf0⟩ := Rdga.trod rd_two h0
  have k1 := h1
  have lt1 : ∀ x ∈ p1, x.block < W.heap.size := by obtain ⟨m, hm⟩ := k1; exact DataW.trod_lt m _ _ _ hm
  obtain ⟨A1, len1, c1, rfl⟩ := okWide_slice Tryd.underlying22 (hval 1 22 v1 rfl rfl)
  obtain ⟨x1, hk1, wf1⟩ := Rdga.trod rd_ints h1
  obtain ⟨A1', c1', he1, hle1, hC1⟩ := hk1
  simp only [Value.cells, List.cons.injEq, Value.slice.injEq, and_true] at he1
  obtain ⟨rfl, rfl, rfl⟩ := he1
  have k2 := h2
  have lt2 : ∀ x ∈ p2, x.block < W.heap.size := by obtain ⟨m, hm⟩ := k2; exact DataW.trod_lt m _ _ _ hm
  obtain ⟨A2, len2, c2, rfl⟩ := okWide_slice Tryd.underlying22 (hval 2 22 v2 rfl rfl)
  obtain ⟨x2, hk2, wf2⟩ := Rdga.trod rd_ints h2
  obtain ⟨A2', c2', he2, hle2, hC2⟩ := hk2
  simp only [Value.cells, List.cons.injEq, Value.slice.injEq, and_true] at he2
  obtain ⟨rfl, rfl, rfl⟩ := he2
  refine (BitsJoin_walk cs0 x0 A1 c1 x1 A2 c2 x2 W hk0 wf0 hC1 hle1 wf1 hC2 hle2 wf2 hL).mono fun e W' ⟨he, bel⟩ => ?_
  subst he
  exact ⟨_, rfl, _, _, _, [], _, [], hW', trodAll_mk1 (shut_bool Tryd.underlying4 _), (trodAll_cons_mk (Below.trod laidOut (by kernel_rfl) (of_decide_eq_true (by kernel_rfl)) k0 bel lt0) (trodAll_cons_mk (Below.trod laidOut (by kernel_rfl) (of_decide_eq_true (by kernel_rfl)) k1 bel lt1) (trodAll_cons_mk (Below.trod laidOut (by kernel_rfl) (of_decide_eq_true (by kernel_rfl)) k2 bel lt2) trodAll_mk0))), rfl, bel.frame _, fun h => by cases h⟩
theorem laid_met (os : Os) : laidMetH Tryd.prog Rows.bitsJoinRow.laid ((World.doorLaid Tryd.prog 4000 os).forCall (fun _ _ => 0) ⟨#[], #[.agg #[.int .i64 0, .int .i64 0], .slice none 0 0, .slice none 0 0], []⟩).memory :=
  laidMetH_of_parts3 (fuel := 12) (laidMet_of_run' 12 (by kernel_rfl) (by kernel_rfl)) (by kernel_rfl) (by kernel_rfl)
theorem reads (os : Os) {H : Type} (enc : TypeId × Value → H) : ∃ ds places, DataW.whole enc Tryd.prog ((World.doorLaid Tryd.prog 4000 os).forCall (fun _ _ => 0) ⟨#[], #[.agg #[.int .i64 0, .int .i64 0], .slice none 0 0, .slice none 0 0], []⟩).memory Tryd.f4.params.toList Rows.bitsJoinSpec.vars false (#[.agg #[.int .i64 0, .int .i64 0], .slice none 0 0, .slice none 0 0] : Array Value).toList 8 = some (ds, [], places) :=
  ⟨[.agg [.lit (.int .i64 0), .lit (.int .i64 0)], .nil, .nil], [], by kernel_rfl⟩
set_option maxRecDepth 100000 in
theorem lifted (os : Os) (started : os.Started) (H : Type) (enc : TypeId × Value → H) (F : Stop.Interp) :
    ReturnsInHanded {} Tryd.checked os 4 .any ((OpenSpec.ofChange Rows.bitsJoinSpec).preRow enc Tryd.prog Tryd.f4 Rows.bitsJoinRow.domain false Rows.bitsJoinRow.laid) (((OpenSpec.ofChange Rows.bitsJoinSpec).at F).post enc Tryd.prog Tryd.f4 false true false false) := by
  obtain ⟨ds, places, hx⟩ := reads os enc
  refine returnsInHanded_of_row (C := Tryd.checked) (s := OpenSpec.ofChange Rows.bitsJoinSpec) own started (by kernel_rfl) Tryd.func4
    (witness_row_at (enc := enc) (C := Tryd.checked) false (World.doorLaid Tryd.prog 4000 os) #[.agg #[.int .i64 0, .int .i64 0], .slice none 0 0, .slice none 0 0] rfl (by kernel_rfl) (by kernel_rfl) (by kernel_rfl)
      (OpenSpec.preRow_of_cond 8 hx (by kernel_rfl) (fun k hk => by cases hk) (by kernel_rfl) (laid_met os))) ?_
  intro W base args ds gs before hval hW _ _ hsz hL _ _
  exact contract H enc W base args ds gs before hval hW hsz hL
theorem said : Rows.BitsJoinSaid :=
  OpenClaim.holds_of_cond 4 Tryd.f4 rfl rfl rfl rfl rfl rfl rfl ⟨rfl, rfl, rfl, rfl, rfl⟩ rfl rfl rfl rfl rfl (by kernel_rfl) Tryd.func4 (by kernel_rfl)
    (of_decide_eq_true (by kernel_rfl)) (by unfold Func.isWrapper; first | (rw [if_pos (by decide +kernel)]; kernel_rfl) | (rw [if_neg (by decide +kernel)]; exact ⟨rfl, rfl⟩))
    (fun os started H enc _ F => by rw [OpenClaim.pre_eq_preRow]; exact lifted os started H enc F)
theorem plain (f : FuncId) (fn : Func) (hf : Tryd.pinned.checked.prog.funcNamed "ladderback/ladderbacklaw06.BitsJoin" = some f) (hfn : Tryd.pinned.checked.prog.funcs[f]? = some fn) :
    false = Tryd.pinned.checked.prog.looks [] ∧ ∀ (j : Nat) t, fn.params[j]? = some t → Tryd.pinned.checked.prog.wantsStandIn t = false := by
  obtain rfl : f = 4 := Option.some.inj ((show Tryd.prog.funcNamed "ladderback/ladderbacklaw06.BitsJoin" = some 4 by kernel_rfl).symm.trans hf) |>.symm
  obtain rfl : fn = Tryd.f4 := (Option.some.inj (Tryd.func4.symm.trans hfn)).symm
  refine ⟨by kernel_rfl, fun j t ht => ?_⟩
  rw [Tryd.params4] at ht
  have hm : t ∈ [37, 22, 22] := by simpa using Array.mem_of_getElem? ht
  have hall : ([37, 22, 22].all fun u => !Tryd.prog.wantsStandIn u) = true := by kernel_rfl
  exact (show Tryd.prog.wantsStandIn t = false by simpa using List.all_eq_true.1 hall t hm)
theorem card : Rows.BitsJoinCardSaid :=
  Claim7.holds_tied_plain_at .later [] _ _ _ _ said (fun _ h => by cases h) (by kernel_rfl) (fun _ h => by cases h) bitsJoin_row_tie rfl ⟨rfl, rfl⟩ (by kernel_rfl) rfl plain (by kernel_rfl)
end Go.Proofs.YtkkikddocgckbaaDoor.bitsJoinRw
namespace Go.Proofs.YtkkikddocgckbaaDoor
theorem bitsJoin_holds : Rows.BitsJoinCardSaid := bitsJoinRw.card
#print axioms bitsJoin_holds
end Go.Proofs.YtkkikddocgckbaaDoor
end
