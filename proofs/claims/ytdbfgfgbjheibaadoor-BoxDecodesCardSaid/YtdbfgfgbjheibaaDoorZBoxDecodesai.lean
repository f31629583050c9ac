/- Printed by a program of this session (wip/pg.py, over the print of the kit): functions, their Lean twins, and the proofs that the calls come to them; each under the conditions that it names. -/
import Derived.Test.YtdbfgfgbjheibaaDoorZBoxDecodesq
import Derived.LaidLaws
import Derived.Lib.LaidTab
import Derived.OpenShut
import Derived.Test.YtdbfgfgbjheibaaDoorRows
import Derived.Defers
import Derived.Recover
import Derived.Deep.QuietTactic
import Derived.BigQuiet
import Derived.IntWalk
import Derived.Test.YtdbfgfgbjheibaaDoorProg
import Derived.Below
import Derived.Deep.Draws
import Derived.Deep.AppendLies
import Derived.Maps.AppendAt
import Derived.OwnWalk
import Derived.Laws.BytesArg
import Derived.Laws.MakeOwn
import Derived.Laws.OwnMore
import Derived.Deep.OwnRows
import Derived.Tactics
import Derived.Lib.ConvBytes
import Derived.Laws.Slices
import Derived.WalkKit
import Derived.KernelRfl
import Derived.RowKit3
import Derived.Deep.LoopGhost
import Derived.WideLaws
import Derived.Deep.DeepCutAuto
import Derived.Deep.CutBlock
import Derived.Deep.RegionHeld3
import Derived.Laws.Rows
import Derived.Lib.AppendStr
import Derived.ArgAppend
import Derived.Laws.IdiomCopy
import Derived.OrdersHeld
import Derived.Laws.BitsLemmas
import Derived.RowKit
import Derived.Test.YtdbfgfgbjheibaaDoorZBoxDecodesaa
import Derived.Test.YtdbfgfgbjheibaaDoorZBoxDecodesab
import Derived.Test.YtdbfgfgbjheibaaDoorZBoxDecodesaf
import Derived.Test.YtdbfgfgbjheibaaDoorZBoxDecodesah
section
/- A program in memory, and what the calls of BoxEncodes tell of it. -/
namespace Go.Proofs.YtdbfgfgbjheibaaDoor.BPure
open Go Go.RowKit Go.Proofs.YtdbfgfgbjheibaaDoor Go.Proofs.YtdbfgfgbjheibaaDoor.PBx Go.Proofs.YtdbfgfgbjheibaaDoor.Given Go.Proofs.YtdbfgfgbjheibaaDoorW.PrintWords Go.Proofs.YtdbfgfgbjheibaaDoorW.PrintLast Go.Proofs.YtdbfgfgbjheibaaDoorW.PrintMore
set_option linter.unusedVariables false
set_option linter.unusedSimpArgs false
/-- A program, and where its lists lie. -/
structure BR where
 A0 : Option Addr
 c0 : Nat
 C : List S68
 A1 : Option Addr
 c1 : Nat
 V : List S41
 A2 : Option Addr
 c2 : Nat
 B : List S43
 A3 : Option Addr
 c3 : Nat
 U : List S48
def BR.cells (u : BR) : Array Value := #[.slice u.A0 u.C.length u.c0, .slice u.A1 u.V.length u.c1, .slice u.A2 u.B.length u.c2, .slice u.A3 u.U.length u.c3]
structure BR.Ok (u : BR) (w : World) : Prop where
 c : Kd.C k68 w u.A0 u.C.length u.C
 cl : u.C.length ≤ u.c0
 v : Kd.C k41 w u.A1 u.V.length u.V
 vl : u.V.length ≤ u.c1
 b : Kd.C k43 w u.A2 u.B.length u.B
 bl : u.B.length ≤ u.c2
 d : Kd.C k48 w u.A3 u.U.length u.U
 dl : u.U.length ≤ u.c3
theorem BR.Ok.below {u : BR} {w w2 : World} (h : u.Ok w) (hb : Below w.heap.size w w2) : u.Ok w2 := ⟨zD h.c hb, h.cl, zD h.v hb, h.vl, zD h.b hb, h.bl, zD h.d hb, h.dl⟩
def BR.fewf (u : BR) (k : Nat) : Option Bool := w16_Few.f k u.C u.V u.B u.U
def BR.encf (u : BR) : Option (List Int × Bool) := box_Encode.f u.C u.V u.B u.U
def BR.rencf (u : BR) (k : Nat) : Option (List Int × Bool) := r16_Encode.f k u.C u.V u.B u.U
def BR.fitsf (u : BR) : Option Bool := box_Fits.f u.C u.V u.B u.U
def BR.samef (u v : BR) (k : Nat) : Option Bool := box_Same.f k u.C u.V u.B u.U v.C v.V v.B v.U
def BR.rsamef (u v : BR) (k : Nat) : Option Bool := r16_Same.f k u.C u.V u.B u.U v.C v.V v.B v.U
theorem rsame_c (u v : BR) (w : World) (h : u.Ok w) (h' : v.Ok w) (k : Nat) (r : Bool) (hf : u.rsamef v k = some r) : Calls Tryd.prog 11 #[.agg u.cells, .agg v.cells] w fun e w' => e = .returned (.bool r) ∧ Below w.heap.size w w' :=
 r16_Same.calls k u.A0 u.c0 u.C u.A1 u.c1 u.V u.A2 u.c2 u.B u.A3 u.c3 u.U v.A0 v.c0 v.C v.A1 v.c1 v.V v.A2 v.c2 v.B v.A3 v.c3 v.U r w h.c h.cl h.v h.vl h.b h.bl h.d h.dl h'.c h'.cl h'.v h'.vl h'.b h'.bl h'.d h'.dl hf
theorem awake_c (w : World) (hw : w16_awake.f = some true) (hL : LaidOps w) : Calls Tryd.prog 8 #[] w fun e w' => e = .returned (.bool true) ∧ Below w.heap.size w w' := w16_awake.calls true w hw hL
/-- What the two sides answer of two programs. -/
structure Both (u v : BR) : Prop where
 aw : w16_awake.f = some true
 few : ∃ k r, u.fewf k = some r
 few2 : ∃ k r, v.fewf k = some r
 rest : ∀ k k', u.fewf k = some true → v.fewf k' = some true → ∃ X F SM k, u.encf = some (X, F) ∧ u.rencf k = some (X, F) ∧ u.fitsf = some F ∧ u.samef v k = some SM ∧ u.rsamef v k = some SM ∧ u.samef u k = some true
end Go.Proofs.YtdbfgfgbjheibaaDoor.BPure
end

section
/- What a package's variable that is laid as plain data has in its cells; numbers, truths, texts, structs and arrays alone. -/
namespace Go.Proofs.YtdbfgfgbjheibaaDoor.Flat
open Go Go.Lib Go.RowKit
mutual
/-- The cells that a datum of numbers, bools, texts, structs and arrays says. -/
def flatW {H : Type} : DataW H → Option (List Value)
 | .lit (.int k n) => some [.int k n]
 | .lit (.bool b) => some [.bool b]
 | .lit (.string s) => some [.string ⟨s.toArray⟩]
 | .agg ps => flatWs ps
 | _ => none
def flatWs {H : Type} : List (DataW H) → Option (List Value)
 | [] => some []
 | d :: r => (flatW d).bind fun a => (flatWs r).map (a ++ ·)
end
/-- Do a type's parts lie one behind the other, without a gap? -/
def tiles (P : Program) : Nat → TypeId → Bool
 | 0, _ => false
 | n + 1, t => match P.underlying t with
  | some .bool | some (.int _) | some .string => true
  | some (.struct fs) => fs.toList.foldl (fun o f => o.bind fun k => if f.offset = k ∧ tiles P n f.type = true then some (k + P.cellsOf f.type) else none) (some 0) == some (P.cellsOf t)
  | some (.array m e) => tiles P n e && P.cellsOf t == m * P.cellsOf e
  | _ => false
theorem foldl_none {α β : Type} (f : Option β → α → Option β) (h : ∀ a, f none a = none) : ∀ l : List α, l.foldl f none = none
 | [] => rfl
 | a :: l => by rw [List.foldl_cons, h, foldl_none f h l]
theorem flat_cells {H : Type} {enc : TypeId × Value → H} {P : Program} {w : World} {base : Nat} {sp : Nat → Bool} {held : Bool} :
  ∀ (n fuel : Nat) (t : TypeId) (cs : List Value) (d : DataW H) (ps : List MemPlace) (vs : List Value), tiles P n t = true → DataW.trod enc P w base sp held fuel t cs = some (d, ps) → flatW d = some vs → cs = vs := by
 intro n
 induction n with
 | zero => intro fuel t cs d ps vs ht; simp [tiles] at ht
 | succ n ih =>
  intro fuel t cs d ps vs ht h hf
  cases fuel with
  | zero => simp [DataW.trod] at h
  | succ fuel =>
   cases hu : P.underlying t with
   | none => simp [tiles, hu] at ht
   | some u =>
    cases u with
    | bool =>
     unfold DataW.trod at h; rw [hu] at h
     split at h <;> simp_all
     obtain ⟨rfl, _⟩ := h
     simp [flatW] at hf; exact hf
    | int k =>
     unfold DataW.trod at h; rw [hu] at h
     split at h <;> simp_all
     obtain ⟨⟨rfl, _⟩, rfl, _⟩ := h
     simp [flatW] at hf; exact hf
    | string =>
     unfold DataW.trod at h; rw [hu] at h
     split at h <;> simp_all
     obtain ⟨_, rfl, _⟩ := h
     simp [flatW] at hf; exact hf
    | struct fs =>
     simp only [tiles, hu, beq_iff_eq] at ht
     unfold DataW.trod at h; rw [hu] at h
     simp only at h
     split at h
     ·rename_i hl
      obtain ⟨xs, hm, hx⟩ := Option.map_eq_some_iff.1 h
      simp only [Prod.mk.injEq] at hx
      obtain ⟨rfl, _⟩ := hx
      have key : ∀ (fs : List Field) (k : Nat) (xs : List (DataW H × List MemPlace)) (vs : List Value), k ≤ cs.length → fs.mapM (fun f => DataW.trod enc P w base sp held fuel f.type ((cs.drop f.offset).take (P.cellsOf f.type))) = some xs →
        fs.foldl (fun o f => o.bind fun k => if f.offset = k ∧ tiles P n f.type = true then some (k + P.cellsOf f.type) else none) (some k) = some cs.length → flatWs (xs.map (·.1)) = some vs → cs.drop k = vs := by
       intro fs
       induction fs with
       | nil =>
        intro k xs vs hk hm ht hf
        simp at hm; subst hm
        simp [flatWs] at hf; subst hf
        simp at ht; simp; omega
       | cons f fs ihf =>
        intro k xs vs hk hm ht hf
        simp only [List.mapM_cons, Option.bind_eq_bind, Option.bind_eq_some_iff, Option.pure_def, Option.some.injEq] at hm
        obtain ⟨b, hb, r, hr, rfl⟩ := hm
        simp only [List.foldl_cons, zP] at ht
        split at ht
        ·rename_i hc
         obtain ⟨hc1, hc2⟩ := hc
         simp only [zc, flatWs, Option.bind_eq_some_iff, Option.map_eq_some_iff] at hf
         obtain ⟨a, ha, s, hs, rfl⟩ := hf
         have e1 := ih _ _ _ b.1 b.2 a hc2 (by rw [hb]) ha
         rw [hc1] at e1
         have hle : k + P.cellsOf f.type ≤ cs.length := by
          have mono : ∀ (l : List Field) (k m : Nat), l.foldl (fun o f => o.bind fun k => if f.offset = k ∧ tiles P n f.type = true then some (k + P.cellsOf f.type) else none) (some k) = some m → k ≤ m := by
           intro l
           induction l with
           | nil => intro k m h; simp at h; omega
           | cons g l ihl =>
            intro k m h
            simp only [List.foldl_cons, zP] at h
            split at h
            ·have := ihl _ _ h; omega
            ·rw [foldl_none _ (fun _ => rfl)] at h; cases h
          exact mono _ _ _ ht
         have e2 := ihf _ _ _ hle hr ht hs
         rw [← e1, ← e2, ← List.drop_drop, List.take_append_drop]
        ·rw [foldl_none _ (fun _ => rfl)] at ht; cases ht
      have := key fs.toList 0 xs vs (Nat.zero_le _) hm (by rw [ht, hl]) (by simpa [flatW] using hf)
      simpa using this
     ·cases h
    | array m e =>
     simp only [tiles, hu, Bool.and_eq_true, beq_iff_eq] at ht
     obtain ⟨ht1, ht2⟩ := ht
     unfold DataW.trod at h; rw [hu] at h
     simp only at h
     split at h
     ·rename_i hl
      obtain ⟨xs, hm, hx⟩ := Option.map_eq_some_iff.1 h
      simp only [Prod.mk.injEq] at hx
      obtain ⟨rfl, _⟩ := hx
      have key : ∀ (j k : Nat) (xs : List (DataW H × List MemPlace)) (vs : List Value), k + j = m → (List.range' k j).mapM (fun i => DataW.trod enc P w base sp held fuel e ((cs.drop (i * P.cellsOf e)).take (P.cellsOf e))) = some xs → flatWs (xs.map (·.1)) = some vs → cs.drop (k * P.cellsOf e) = vs := by
       intro j
       induction j with
       | zero =>
        intro k xs vs hk hm hf
        simp at hm; subst hm
        simp [flatWs] at hf; subst hf
        have hkm : k = m := by omega
        subst hkm
        rw [← ht2, ← hl]; simp
       | succ j ihj =>
        intro k xs vs hk hm hf
        simp only [List.range'_succ, List.mapM_cons, Option.bind_eq_bind, Option.bind_eq_some_iff, Option.pure_def, Option.some.injEq] at hm
        obtain ⟨b, hb, r, hr, rfl⟩ := hm
        simp only [zc, flatWs, Option.bind_eq_some_iff, Option.map_eq_some_iff] at hf
        obtain ⟨a, ha, s, hs, rfl⟩ := hf
        have e1 := ih _ _ _ b.1 b.2 a ht1 (by rw [hb]) ha
        have e2 := ihj (k + 1) _ _ (by omega) hr hs
        rw [← e1, ← e2, Nat.add_mul, Nat.one_mul, ← List.drop_drop, List.take_append_drop]
      have := key m 0 xs vs (by omega) (by rw [← List.range_eq_range']; exact hm) (by simpa [flatW] using hf)
      simpa using this
     ·cases h
    | _ => simp [tiles, hu] at ht
/-- The variable holds these cells. -/
def VarIs (P : Program) (w : World) (name : String) (vs : List Value) : Prop := w.var? P name = some vs.toArray
theorem varIs_of_laid {P : Program} {W : World} {name : String} {D : DataW Unit} {vs : List Value} {g : Nat} {t : TypeId} (n : Nat)
  (hg : P.globalNamed name = some g) (hty : (P.globals[g]?).map (·.type) = some t) (ht : tiles P n t = true) (hf : flatW D = some vs) :
  ∀ {l : List (String × DataW Unit)} {ps : List MemPlace}, (name, D) ∈ l → DataW.LaidVars P W l ps → VarIs P W name vs := by
 intro l
 induction l with
 | nil => intro ps h; cases h
 | cons x l ih =>
  intro ps hm h
  obtain ⟨nm, E⟩ := x
  obtain ⟨g', t', cs, fuel, p, q, hg', ht', hvar, hd, hr, _⟩ := h
  rcases List.mem_cons.1 hm with h | h
  ·injection h with h1 h2
   subst h1 h2
   obtain rfl := zJ (hg.symm.trans hg')
   obtain rfl := zJ (hty.symm.trans ht')
   unfold VarIs
   rw [hvar, ← flat_cells n _ _ _ _ _ _ ht hd hf]
  ·exact ih h hr
theorem varIs {P : Program} {W : World} {name : String} {D : DataW Unit} {vs : List Value} {g : Nat} {t : TypeId} {l : List (String × DataW Unit)} (n : Nat)
  (h : laidMetH P l W) (hp : (l.filter fun x => x.2.handleName?.isSome) = []) (hm : (name, D) ∈ l)
  (hg : P.globalNamed name = some g) (hty : (P.globals[g]?).map (·.type) = some t) (ht : tiles P n t = true) (hf : flatW D = some vs) : VarIs P W name vs := by
 unfold laidMetH at h
 rw [hp] at h
 obtain ⟨ps, h, _⟩ := h
 exact varIs_of_laid n hg hty ht hf hm h
theorem VarIs.cell {P : Program} {W : World} {name : String} {vs : List Value} {g : Nat} (h : VarIs P W name vs) (hg : P.globalNamed name = some g) (i : Nat) : W.cell? ⟨g, i, none⟩ = vs[i]? := by
 rw [World.var?_cell hg h i]; simp
end Go.Proofs.YtdbfgfgbjheibaaDoor.Flat
end

section
/- Programs that are read as data; the operations' table as the program lays it. -/
namespace Go.Proofs.YtdbfgfgbjheibaaDoor
open Go Go.RowKit Go.Proofs.YtdbfgfgbjheibaaDoorW.PrintWords Go.Proofs.YtdbfgfgbjheibaaDoor.PBx Go.Proofs.YtdbfgfgbjheibaaDoor.Given
set_option linter.unusedVariables false
namespace BxRow
theorem laidOps_of {l : List (String × DataW Unit)} {w : World} (h : laidMetH Tryd.prog l w) (hp : (l.filter fun x => x.2.handleName?.isSome) = []) (hm : ("ladderback/op.rows", Rows.laid_ladderback_op_rows) ∈ l) : LaidOps w := by
 have hv := Flat.varIs (name := "ladderback/op.rows") (D := Rows.laid_ladderback_op_rows) (vs := opsV) (g := 0) (t := 150) 6 h hp hm (by kernel_rfl) (by kernel_rfl) (by kernel_rfl) (by rfl)
 intro i v hi
 rw [hv.cell (by kernel_rfl), hi]
end BxRow
end Go.Proofs.YtdbfgfgbjheibaaDoor
end

section
/- box.must by its contracts: nothing, or a panic of what is wrong. -/
namespace Go.Proofs.YtdbfgfgbjheibaaDoor.Given
open Go Go.RowKit Go.Proofs.YtdbfgfgbjheibaaDoor Go.Proofs.YtdbfgfgbjheibaaDoorW.PrintWords Go.Proofs.YtdbfgfgbjheibaaDoorW.PrintLast Go.Proofs.YtdbfgfgbjheibaaDoorW.PrintMore
set_option linter.unusedVariables false
set_option linter.unusedSimpArgs false
def wrongV (n : Int) : Value := .iface 59 (.agg #[.int .i64 n])
theorem must_ok (w : World) : Calls Tryd.prog 58 #[.int .i64 0] w fun e w' => e = .returned (.tuple #[]) ∧ w' = w := by
 go_enter Tryd.func58, Tryd.ntmps58
 go_wp2
 go_end0
 exact ⟨rfl, rfl⟩
theorem must_bad (n : Int) (hn : ¬ n = 0) (w : World) : Calls Tryd.prog 58 #[.int .i64 n] w fun e w' => e = .panicked [{ v := wrongV n, recovered := false }] ∧ w' = w := by
 have hp : ∀ (t : TypeId) (v : Value) (w : World), (Instr.panic (.iface t v)).run Tryd.prog w = .halt (.panic (.iface t v)) w := fun _ _ _ => by first | rfl | kernel_rfl
 go_enter Tryd.func58, Tryd.ntmps58
 go_wp2
 exact ⟨rfl, rfl, rfl⟩
set_option maxRecDepth 100000 in
set_option maxHeartbeats 1000000 in
/-- The closure of box.Decode behind a panic of 'wrong': the named results are cleared and told. -/
theorem catch_wrong (n : Int) (gp gq : Nat) (w : World) (hP : w.heap[gp]? = some (.cells #[.slice none 0 0, .slice none 0 0, .slice none 0 0, .slice none 0 0] 27 (0, 0))) (hQ : w.heap[gq]? = some (.cells #[.int .i64 0] 33 (0, 0))) (hne : gp ≠ gq) :
  CallsD Tryd.prog 24 #[.pointer (some ⟨gp, 0, none⟩), .pointer (some ⟨gq, 0, none⟩)] (.panicking ({ v := .iface 59 (.agg #[.int .i64 n]), recovered := false } :: [])) w fun e u' w' => e = .returned (.tuple #[]) ∧ u' = .panicking ({ v := .iface 59 (.agg #[.int .i64 n]), recovered := true } :: []) ∧ w' = ((((((w.alloc (.cells #[.int .i64 n] 59)).setCell ⟨gp, 0, none⟩ (.slice none 0 0)).setCell ⟨gp, 1, none⟩ (.slice none 0 0)).setCell ⟨gp, 2, none⟩ (.slice none 0 0)).setCell ⟨gp, 3, none⟩ (.slice none 0 0)).setCell ⟨gq, 0, none⟩ (.int .i64 n)).drew := by
 have ha := (zX w.heap.size w).alloc (z5 _) (.cells #[.int .i64 n] 59)
 have hp1 := (ha.block gp (blk_lt hP)).trans hP
 have hq1 := (ha.block gq (blk_lt hQ)).trans hQ
 have hw1 : (w.alloc (.cells #[.int .i64 n] 59)).heap[w.heap.size]? = some (.cells #[.int .i64 n] 59 (0, 0)) := heap_alloc_new w _
 have c0 : (w.alloc (.cells #[.int .i64 n] 59)).cell? ⟨gp, 0, none⟩ = some (.slice none 0 0) := (zC hp1 0).trans rfl
 have c1 : (w.alloc (.cells #[.int .i64 n] 59)).cell? ⟨gp, 1, none⟩ = some (.slice none 0 0) := (zC hp1 1).trans rfl
 have c2 : (w.alloc (.cells #[.int .i64 n] 59)).cell? ⟨gp, 2, none⟩ = some (.slice none 0 0) := (zC hp1 2).trans rfl
 have c3 : (w.alloc (.cells #[.int .i64 n] 59)).cell? ⟨gp, 3, none⟩ = some (.slice none 0 0) := (zC hp1 3).trans rfl
 have cq : (w.alloc (.cells #[.int .i64 n] 59)).cell? ⟨gq, 0, none⟩ = some (.int .i64 0) := (zC hq1 0).trans rfl
 have cw : (w.alloc (.cells #[.int .i64 n] 59)).cell? ⟨w.heap.size, 0, none⟩ = some (.int .i64 n) := (zC hw1 0).trans rfl
 have f0 := zF hp1 0
 have f1 := zF hp1 1
 have f2 := zF hp1 2
 have f3 := zF hp1 3
 have fq := zF hq1 0
 have n1 : w.heap.size ≠ gp := Nat.ne_of_gt (blk_lt hP)
 have n2 : w.heap.size ≠ gq := Nat.ne_of_gt (blk_lt hQ)
 have n3 : gp ≠ w.heap.size := Ne.symm n1
 have n4 : gq ≠ w.heap.size := Ne.symm n2
 have n5 := Ne.symm hne
 clear ha hp1 hq1 hw1 hP hQ
 have h0 : ∀ w : World, (eqGuard BinOp.neq 20 (Operand.tmp 6) (Operand.const Value.nilIface) (.iface 59 (.agg #[.int .i64 n])) Value.nilIface).run Tryd.prog w = .ok () w := fun _ => by kernel_rfl
 have h1 : ∀ w : World, (binOp BinOp.neq 20 (.iface 59 (.agg #[.int .i64 n])) Value.nilIface).run Tryd.prog w = .ok (.bool true) w := fun _ => by kernel_rfl
 have h2 : ∀ w : World, (Instr.typeAssert (.iface 59 (.agg #[.int .i64 n])) 20 59 true).run Tryd.prog w = .ok (.tuple #[.agg #[.int .i64 n], .bool true]) w := fun _ => by kernel_rfl
 refine callsD_of_wpS Tryd.func24 rfl fun c₀ cs hu => ?_
 apply wpS_seq
 apply wpS_region
 simp [wpOpsS, go_sem, recoverD, hu, Tryd.ntmps24, Exit.thenS]
 refine wpS_of_wp ?_
 rw [show (#[Value.pointer (some ⟨gp, 0, none⟩), Value.pointer (some ⟨gq, 0, none⟩)] ++ ((Array.replicate 17 undef).setIfInBounds 3 (.iface 59 (.agg #[.int .i64 n]))).setIfInBounds 0 (.iface 59 (.agg #[.int .i64 n])) : Array Value) = #[.pointer (some ⟨gp, 0, none⟩), .pointer (some ⟨gq, 0, none⟩), .iface 59 (.agg #[.int .i64 n]), undef, undef, .iface 59 (.agg #[.int .i64 n]), undef, undef, undef, undef, undef, undef, undef, undef, undef, undef, undef, undef, undef] from rfl]
 go_wp2
 go_region
 rename_i Q_
 simp only [Q_]
 cases c₀
 simp_all [bodyPostS, results, Tryd.results24, Exit.thenS]
end Go.Proofs.YtdbfgfgbjheibaaDoor.Given
end

section
/- A reader of octets in memory, as the program's: what printed texts ask of it; no conditions. -/
namespace Go.Proofs.YtdbfgfgbjheibaaDoor.Given
set_option linter.unusedVariables false
open Go.RowKit Go.Proofs.YtdbfgfgbjheibaaDoorW.PrintWords Go.Proofs.YtdbfgfgbjheibaaDoorW.PrintLast Go.Proofs.YtdbfgfgbjheibaaDoorW.PrintMore
/-- The cells of a reader: its bytes came by w0, and it's not past its end. -/
def CsR (w0 : World) (cs : Array Value) (f0 : List Int) (f1 : Int) (f2 : Bool) : Prop := ∃ a c, cs = #[.slice (some a) f0.length c, .int .i64 f1, .bool f2] ∧ Kd.C (Kd.int .u8) w0 (some a) f0.length f0 ∧ f0.length ≤ c ∧ 0 ≤ f1 ∧ f1 ≤ f0.length
/-- A state of this type at block g of W. -/
def IsS119 (w0 W : World) (g : Nat) (f0 : List Int) (f1 : Int) (f2 : Bool) : Prop := ∃ cs, W.heap[g]? = some (.cells cs 119 (0, 0)) ∧ w0.heap.size ≤ g ∧ CsR w0 cs f0 f1 f2
theorem IsS119.grown {w0 W : World} {g : Nat} {f0 : List Int} {f1 : Int} {f2 : Bool} {W1 : World} {row : Option Nat} (h : IsS119 w0 W g f0 f1 f2) (hw : W.grownBy W1 row) (hne : some g ≠ row) : IsS119 w0 W1 g f0 f1 f2 := by
 obtain ⟨cs, hb, hg, hx⟩ := h
 exact ⟨cs, blk_grown hb hw hne, hg, hx⟩
theorem IsS119.kept {w0 W : World} {g : Nat} {f0 : List Int} {f1 : Int} {f2 : Bool} {W1 : World} {S : Nat → Prop} (h : IsS119 w0 W g f0 f1 f2) (hk : Kept W W1 S) (hne : ¬ S g) : IsS119 w0 W1 g f0 f1 f2 := by
 obtain ⟨cs, hb, hg, hx⟩ := h
 exact ⟨cs, blk_kept hb hk hne, hg, hx⟩
theorem IsS119.below {w0 W : World} {g : Nat} {f0 : List Int} {f1 : Int} {f2 : Bool} {W1 : World} (h : IsS119 w0 W g f0 f1 f2) (hw : Below W.heap.size W W1) : IsS119 w0 W1 g f0 f1 f2 := h.grown (grown_of_below hw none) (by simp)
theorem IsS119.alloc {w0 W : World} {g : Nat} {f0 : List Int} {f1 : Int} {f2 : Bool} (h : IsS119 w0 W g f0 f1 f2) (o : Obj) : IsS119 w0 (W.alloc o) g f0 f1 f2 := h.below (zB (zX _ _) o)
theorem IsS119.drewN {w0 W : World} {g : Nat} {f0 : List Int} {f1 : Int} {f2 : Bool} (h : IsS119 w0 W g f0 f1 f2) (m : Nat) : IsS119 w0 (W.drewN m) g f0 f1 f2 := h
theorem IsS119.drew {w0 W : World} {g : Nat} {f0 : List Int} {f1 : Int} {f2 : Bool} (h : IsS119 w0 W g f0 f1 f2) : IsS119 w0 W.drew g f0 f1 f2 := h
theorem IsS119.at_ {w0 W : World} {g : Nat} {f0 : List Int} {f1 : Int} {f2 : Bool} {w' : World} {m : Nat} (hq : W.drewN m = w') (h : IsS119 w0 W g f0 f1 f2) : IsS119 w0 w' g f0 f1 f2 := by subst hq; exact IsS119.drewN h m
theorem IsS119.apart {w0 W : World} {g : Nat} {f0 : List Int} {f1 : Int} {f2 : Bool} {α : Type} {d : Kd α} {e : Nat} {base : Nat} {ok : Nat → Prop} {v : Value} {xs : List α} (h : IsS119 w0 W g f0 f1 f2) (ho : d.R e W base ok v xs) (ht : ∀ q, q ∈ e :: d.E → q ≠ 119) : d.R e W base (fun k => ok k ∧ k ≠ g) v xs := by
 obtain ⟨cs, hb, hg, hx⟩ := h
 exact Kd.R_types ho hb ht
theorem IsS119.own_ne {w0 W : World} {g : Nat} {f0 : List Int} {f1 : Int} {f2 : Bool} {α : Type} {d : Kd α} {e : Nat} {base : Nat} {ok : Nat → Prop} {v : Value} {xs : List α} (h : IsS119 w0 W g f0 f1 f2) (ho : d.R e W base ok v xs) (ht : e ≠ 119) : some g ≠ v.ownBlock := by
 obtain ⟨cs, hb, hg, hx⟩ := h
 exact Kd.R_ne ho hb ht
theorem IsS119.lt {w0 W : World} {g : Nat} {f0 : List Int} {f1 : Int} {f2 : Bool} (h : IsS119 w0 W g f0 f1 f2) : g < W.heap.size := by
 obtain ⟨cs, hb, hg, hx⟩ := h
 exact blk_lt hb
theorem IsS119.ge {w0 W : World} {g : Nat} {f0 : List Int} {f1 : Int} {f2 : Bool} (h : IsS119 w0 W g f0 f1 f2) : w0.heap.size ≤ g := by
 obtain ⟨cs, hb, hg, hx⟩ := h
 exact hg
theorem IsS119.far {w0 W : World} {g : Nat} {f0 : List Int} {f1 : Int} {f2 : Bool} {p : Addr} (h : IsS119 w0 W g f0 f1 f2) (hne : g ≠ p.block) (u : Value) : IsS119 w0 (W.setCell p u) g f0 f1 f2 := by
 obtain ⟨cs, hb, hg, hx⟩ := h
 exact ⟨cs, blk_far hb hne u, hg, hx⟩
end Go.Proofs.YtdbfgfgbjheibaaDoor.Given
end

section
/- The reader of octets, as the program reads: the next bytes of a reader; any reader that is not past its end. -/
namespace Go.Proofs.YtdbfgfgbjheibaaDoor.Given
set_option linter.unusedVariables false
set_option linter.unusedSimpArgs false
open Go.RowKit Go.Proofs.YtdbfgfgbjheibaaDoorW.PrintWords Go.Proofs.YtdbfgfgbjheibaaDoorW.PrintLast Go.Proofs.YtdbfgfgbjheibaaDoorW.PrintMore
set_option maxHeartbeats 1000000 in
theorem next_ok (g : Nat) (w0 w : World) (b : List Int) (at_ : Int) (n : Int) (hI : IsS119 w0 w g b at_ false) (hB : Below w0.heap.size w0 w) (h0 : 0 ≤ n) (h1 : n ≤ b.length - at_) :
  Calls Tryd.prog 87 #[.pointer (some ⟨g, 0, none⟩), .int .i64 n] w fun e w' =>
   (∃ A c, e = .returned (.tuple #[.slice (some A) n.toNat c, .bool true]) ∧ Kd.C (Kd.int .u8) w0 (some A) n.toNat ((b.drop at_.toNat).take n.toNat) ∧ n.toNat ≤ c ∧ IsS119 w0 w' g b (at_ + n) false) ∧ Below w0.heap.size w0 w' ∧ KeepBut w w' g none := by
 obtain ⟨_, hb, hg, a, c, rfl, hr, hc, ha0, ha1⟩ := hI
 have c0 : w.cell? ⟨g, 0, none⟩ = some (.slice (some a) b.length c) := (zC hb 0).trans rfl
 have c1 : w.cell? ⟨g, 1, none⟩ = some (.int .i64 at_) := (zC hb 1).trans rfl
 have c2 : w.cell? ⟨g, 2, none⟩ = some (.bool false) := (zC hb 2).trans rfl
 have hbl : b.length ≤ 9223372036854775807 := hr.2.1
 have hK := KeepBut.refl w g none
 have f1 := zF hb 1
 have f2 := zF hb 2
 have d0 : decide (n < 0) = false := decide_eq_false (by omega)
 have hw : IntKind.i64.wrap ((b.length : Int) - at_) = (b.length : Int) - at_ := IntWalk.i64_in _ (by omega)
 have d1 : decide ((b.length : Int) - at_ < n) = false := decide_eq_false (by omega)
 go_enter Tryd.func87, Tryd.ntmps87
 go_wp2_with fail
 go_quiet (fail)
 go_wp2_with fail
 obtain ⟨W1, hW1⟩ : ∃ W1, W1 = (w.drewN nq).setCell ⟨g, 1, none⟩ (.int .i64 (at_ + n)) := ⟨_, rfl⟩
 have hb1 : W1.heap[g]? = some (.cells #[.slice (some a) b.length c, .int .i64 (at_ + n), .bool false] 119 (0, 0)) := by rw [hW1]; exact blk_put (w := w.drewN nq) hb 1 _ rfl
 have hB1 : Below w0.heap.size w0 W1 := by rw [hW1]; exact zE (zN hB nq) hg
 have hK1 : KeepBut w W1 g none := by rw [hW1]; exact KeepBut.set_ (keep_drewN hK nq) 1 _
 rw [← hW1]
 have hl := Kd.C_mid (k := Kd.int .u8) (lo := at_.toNat) (hi := (at_ + n).toNat) (c := c) hr (by omega) (by omega) hc
 have he : (b.take (at_ + n).toNat).drop at_.toNat = (b.drop at_.toNat).take n.toNat := by rw [List.drop_take]; congr 1; omega
 have hle : ((b.drop at_.toNat).take n.toNat).length = n.toNat := by simp; omega
 rw [he, hle] at hl
 have hnn : (at_ + n).toNat - at_.toNat = n.toNat := by omega
 have hl := zA hl
 have hnn := zA hnn
 clear hW1 c0 c1 c2 f1 f2 hb hK d0 d1 hw he hle
 have c0 : W1.cell? ⟨g, 0, none⟩ = some (.slice (some a) b.length c) := (zC hb1 0).trans rfl
 have c1 : W1.cell? ⟨g, 1, none⟩ = some (.int .i64 (at_ + n)) := (zC hb1 1).trans rfl
 have hs : IntKind.i64.wrap (at_ + n - n) = at_ := by rw [show at_ + n - n = at_ by omega]; exact IntWalk.i64_in _ (by omega)
 have s1 : at_ ≤ at_ + n := by omega
 have s2 : at_ + n ≤ (c : Int) := by omega
 go_quiet (fail)
 go_wp2_with fail
 ·go_ret2
  rename_i h
  have hl := hl.out
  rw [if_pos h] at hl
  refine ⟨⟨a, 0, ?_, hl, by omega, _, hb1, hg, a, c, rfl, hr, hc, by omega, by omega⟩, zN hB1 _, keep_drewN hK1 _⟩
  rw [← hnn.out]
  rfl
 ·go_ret2
  rename_i h
  have hl := hl.out
  rw [if_neg h, show at_.toNat * (Kd.int .u8).sz = at_.toNat from Nat.mul_one _] at hl
  refine ⟨⟨a.add at_.toNat, c - at_.toNat, ?_, hl, by omega, _, hb1, hg, a, c, rfl, hr, hc, by omega, by omega⟩, zN hB1 _, keep_drewN hK1 _⟩
  rw [← hnn.out]
  rfl
set_option maxHeartbeats 1000000 in
theorem next_bad (g : Nat) (w0 w : World) (b : List Int) (at_ : Int) (bad : Bool) (n : Int) (hI : IsS119 w0 w g b at_ bad) (hB : Below w0.heap.size w0 w) (h : ¬ (bad = false ∧ 0 ≤ n ∧ n ≤ b.length - at_)) :
  Calls Tryd.prog 87 #[.pointer (some ⟨g, 0, none⟩), .int .i64 n] w fun e w' =>
   (e = .returned (.tuple #[.slice none 0 0, .bool false]) ∧ IsS119 w0 w' g b at_ true) ∧ Below w0.heap.size w0 w' ∧ KeepBut w w' g none := by
 obtain ⟨_, hb, hg, a, c, rfl, hr, hc, ha0, ha1⟩ := hI
 have c0 : w.cell? ⟨g, 0, none⟩ = some (.slice (some a) b.length c) := (zC hb 0).trans rfl
 have c1 : w.cell? ⟨g, 1, none⟩ = some (.int .i64 at_) := (zC hb 1).trans rfl
 have c2 : w.cell? ⟨g, 2, none⟩ = some (.bool bad) := (zC hb 2).trans rfl
 have hbl : b.length ≤ 9223372036854775807 := hr.2.1
 have hK := KeepBut.refl w g none
 have f1 := zF hb 1
 have f2 := zF hb 2
 cases bad
 ·by_cases h0 : n < 0
  ·have d0 : decide (n < 0) = true := decide_eq_true h0
   go_enter Tryd.func87, Tryd.ntmps87
   go_wp2_with fail
   go_quiet (fail)
   go_wp2_with fail
   go_ret2
   exact ⟨⟨rfl, _, blk_put (w := w.drewN nq) hb 2 _ rfl, hg, a, c, rfl, hr, hc, ha0, ha1⟩, zE (zN hB nq) hg, KeepBut.set_ (keep_drewN hK nq) 2 _⟩
  ·have d0 : decide (n < 0) = false := decide_eq_false h0
   have hw : IntKind.i64.wrap ((b.length : Int) - at_) = (b.length : Int) - at_ := IntWalk.i64_in _ (by omega)
   have d1 : decide ((b.length : Int) - at_ < n) = true := decide_eq_true (by by_cases h1 : n ≤ b.length - at_; exact absurd ⟨rfl, by omega, h1⟩ h; omega)
   go_enter Tryd.func87, Tryd.ntmps87
   go_wp2_with fail
   go_quiet (fail)
   go_wp2_with fail
   go_ret2
   exact ⟨⟨rfl, _, blk_put (w := w.drewN nq) hb 2 _ rfl, hg, a, c, rfl, hr, hc, ha0, ha1⟩, zE (zN hB nq) hg, KeepBut.set_ (keep_drewN hK nq) 2 _⟩
 ·go_enter Tryd.func87, Tryd.ntmps87
  go_wp2_with fail
  go_ret2
  exact ⟨⟨rfl, _, hb, hg, a, c, rfl, hr, hc, ha0, ha1⟩, hB, hK⟩
end Go.Proofs.YtdbfgfgbjheibaaDoor.Given
end

section
/- The reader of octets, as the program reads: a number, bytes, a text; any reader that is not past its end. -/
namespace Go.Proofs.YtdbfgfgbjheibaaDoor.Given
set_option linter.unusedVariables false
set_option linter.unusedSimpArgs false
open Go.RowKit Go.Proofs.YtdbfgfgbjheibaaDoorW.PrintWords Go.Proofs.YtdbfgfgbjheibaaDoorW.PrintLast Go.Proofs.YtdbfgfgbjheibaaDoorW.PrintMore
attribute [local go_sem] max2_int min2_int
/-- The number whose bytes are l, the least first. -/
def leN : List Int → Int
 | [] => 0
 | x :: xs => x + 256 * leN xs
theorem leN_app (xs : List Int) (x : Int) : leN (xs ++ [x]) = leN xs + x * 2 ^ (8 * xs.length) := by
 induction xs with
 | nil => simp [leN]
 | cons y ys ih =>
  simp only [List.cons_append, leN, ih, List.length_cons]
  rw [show 8 * (ys.length + 1) = 8 * ys.length + 8 by omega, Int.pow_add, Int.mul_add, Int.add_assoc]
  congr 2
  rw [show (2 : Int) ^ 8 = 256 from rfl, Int.mul_comm 256, Int.mul_assoc]
theorem leN_lim (xs : List Int) (h : ∀ x ∈ xs, 0 ≤ x ∧ x < 256) : 0 ≤ leN xs ∧ leN xs < 2 ^ (8 * xs.length) := by
 induction xs with
 | nil => simp [leN]
 | cons y ys ih =>
  have h1 := h y (by simp)
  have h2 := ih (fun x hx => h x (by simp [hx]))
  simp only [leN, List.length_cons]
  rw [show 8 * (ys.length + 1) = 8 * ys.length + 8 by omega, Int.pow_add, show (2 : Int) ^ 8 = 256 from rfl]
  generalize (2 : Int) ^ (8 * ys.length) = p at *
  omega
theorem ofInt64 (n : Nat) (h : n < 2 ^ 64) : (BitVec.ofInt 64 (n : Int)).toNat = n := by
 rw [BitVec.toNat_ofInt]
 omega
theorem or_add (n x k : Nat) (hn : n < 2 ^ k) (h : x * 2 ^ k + n < 2 ^ 64) : Go.bits .or .u64 (n : Int) ((x * 2 ^ k : Nat) : Int) = ((n + x * 2 ^ k : Nat) : Int) := by
 have e : n ||| x * 2 ^ k = n + x * 2 ^ k := by
  rw [Nat.or_comm, Nat.mul_comm, ← Nat.two_pow_add_eq_or_of_lt hn, Nat.add_comm]
 show IntKind.u64.wrap ((BitVec.ofInt 64 (n : Int) ||| BitVec.ofInt 64 ((x * 2 ^ k : Nat) : Int)).toNat : Int) = _
 rw [BitVec.toNat_or, ofInt64 n (by omega), ofInt64 _ (by omega), e]
 show ((n + x * 2 ^ k : Nat) : Int) % 18446744073709551616 = _
 omega
theorem or_step (v x : Int) (j : Nat) (hj : j < 8) (hv : 0 ≤ v ∧ v < 2 ^ (8 * j)) (hx : 0 ≤ x ∧ x < 256) : Go.bits .or .u64 v (IntKind.u64.wrap (x * 2 ^ (8 * j))) = v + x * 2 ^ (8 * j) := by
 obtain ⟨n, rfl⟩ := Int.eq_ofNat_of_zero_le hv.1
 obtain ⟨y, rfl⟩ := Int.eq_ofNat_of_zero_le hx.1
 have hn : n < 2 ^ (8 * j) := by have := hv.2; exact_mod_cast this
 have hy : y < 256 := by omega
 have hp : y * 2 ^ (8 * j) + n < 2 ^ 64 := by
  have h2 : 2 ^ (8 * j) * 2 ^ (64 - 8 * j) = 2 ^ 64 := by rw [← Nat.pow_add]; congr 1; omega
  have h3 : 256 ≤ 2 ^ (64 - 8 * j) := by
   have : 2 ^ 8 ≤ 2 ^ (64 - 8 * j) := Nat.pow_le_pow_right (by omega) (by omega)
   simpa using this
  have h4 : 2 ^ (8 * j) * 256 ≤ 2 ^ 64 := by rw [← h2]; exact Nat.mul_le_mul_left _ h3
  have h5 : (y + 1) * 2 ^ (8 * j) ≤ 2 ^ (8 * j) * 256 := by rw [Nat.mul_comm]; exact Nat.mul_le_mul_left _ (by omega)
  rw [Nat.add_mul] at h5
  omega
 have e2 : (y : Int) * 2 ^ (8 * j) = ((y * 2 ^ (8 * j) : Nat) : Int) := by push_cast; rfl
 have e3 : IntKind.u64.wrap ((y * 2 ^ (8 * j) : Nat) : Int) = ((y * 2 ^ (8 * j) : Nat) : Int) := by
  show ((y * 2 ^ (8 * j) : Nat) : Int) % 18446744073709551616 = _
  omega
 show Go.bits .or .u64 (n : Int) (IntKind.u64.wrap ((y : Int) * 2 ^ (8 * j))) = (n : Int) + (y : Int) * 2 ^ (8 * j)
 rw [e2, e3, or_add n y _ hn hp]
 push_cast
 rfl
set_option maxHeartbeats 1000000 in
theorem num_ok (g : Nat) (w0 w : World) (b : List Int) (at_ : Int) (many m : Int) (hm : mx 0 (mn many 8) = m) (L : List Int) (hL : L = (b.drop at_.toNat).take m.toNat) (hI : IsS119 w0 w g b at_ false) (hB : Below w0.heap.size w0 w) (h1 : m ≤ b.length - at_) (hb : ∀ x ∈ b, 0 ≤ x ∧ x < 256) :
  Calls Tryd.prog 60 #[.pointer (some ⟨g, 0, none⟩), .int .i64 many] w fun e w' =>
   (e = .returned (.int .i64 (wrap64 (leN L))) ∧ IsS119 w0 w' g b (at_ + m) false) ∧ Below w0.heap.size w0 w' ∧ KeepBut w w' g none := by
 obtain ⟨M, hM⟩ : ∃ M : Int, (if (8 : Int) < many then 8 else many) = M := ⟨_, rfl⟩
 have hN : (if (0 : Int) < M then M else 0) = m := by rw [← hM, ← hm]; unfold mx mn; (repeat' split) <;> omega
 have hm0 : 0 ≤ m := by rw [← hN]; split <;> omega
 have hm8 : m ≤ 8 := by rw [← hN, ← hM]; (repeat' split) <;> omega
 go_enter Tryd.func60, Tryd.ntmps60
 go_wp2_with fail
 refine (next_ok g w0 _ b at_ m hI hB hm0 h1).mono ?_
 rintro e w1 ⟨⟨A, c, rfl, hC, hc, hI1⟩, hB1, hK1⟩
 go_wp2_with fail
 rw [← hL] at hC
 have hlen : L.length = m.toNat := by have := hC.1; omega
 have hcells : ∀ j : Nat, ∀ h : j < L.length, w1.cell? (A.add j) = some (.int .u8 L[j]) := by
  intro j h
  obtain ⟨ad, e, hc⟩ := C_cells (zD hC hB1) (by omega)
  cases e
  exact hc j _ (by simp [nums, h])
 have hrange : ∀ x ∈ L, 0 ≤ x ∧ x < 256 := by
  intro x hx
  rw [hL] at hx
  exact hb x (List.mem_of_mem_drop (List.mem_of_mem_take hx))
 have HL := zA hrange
 have HN := zA hlen
 clear hM hN hm h1 hL hb hrange hlen
 go_loopw [7, 22] (fun x i wr => ∃ j : Nat, j ≤ m.toNat ∧ i = .int .i64 j ∧ x = .int .u64 (leN (L.take j)) ∧ wr = w1) (fun _ i _ => m.toNat - (intOf i).toNat)
 case atStart => exact ⟨0, Nat.zero_le _, rfl, rfl, rfl⟩
 case round =>
  obtain ⟨j, hj, rfl, rfl, rfl⟩ := hrel
  by_cases hlt : j < m.toNat
  ·have hlj : j < L.length := by have := HN.out; omega
   have hlen := HN.out
   have hce := hcells j hlj
   have hx := HL.out _ (List.getElem_mem hlj)
   have ht : leN (L.take j) + L[j] * 2 ^ (8 * j) = leN (L.take (j + 1)) := by
    rw [List.take_succ_eq_append_getElem (by omega), leN_app, zt, Nat.min_eq_left (by omega)]
   have hv := leN_lim (L.take j) (fun x h => HL.out x (List.mem_of_mem_take h))
   rw [zt, Nat.min_eq_left (by omega)] at hv
   have ho := zA (or_step (leN (L.take j)) L[j] j (by omega) hv hx)
   have ht := zA ht
   clear hv
   clear hlen
   go_wp2_with fail
   refine ⟨⟨j + 1, by omega, rfl, ?_, trivial⟩, by simp [intOf]; omega⟩
   rw [ho.out, ht.out]
  ·go_wp2_with fail
   go_ret
   have : j = L.length := by have := HN.out; omega
   subst this
   rw [List.take_length] at *
   exact ⟨⟨rfl, hI1⟩, hB1, hK1⟩
set_option maxHeartbeats 1000000 in
theorem num_bad (g : Nat) (w0 w : World) (b : List Int) (at_ : Int) (bad : Bool) (many m : Int) (hm : mx 0 (mn many 8) = m) (hI : IsS119 w0 w g b at_ bad) (hB : Below w0.heap.size w0 w) (h : ¬ (bad = false ∧ 0 ≤ m ∧ m ≤ b.length - at_)) :
  Calls Tryd.prog 60 #[.pointer (some ⟨g, 0, none⟩), .int .i64 many] w fun e w' =>
   (e = .returned (.int .i64 0) ∧ IsS119 w0 w' g b at_ true) ∧ Below w0.heap.size w0 w' ∧ KeepBut w w' g none := by
 obtain ⟨M, hM⟩ : ∃ M : Int, (if (8 : Int) < many then 8 else many) = M := ⟨_, rfl⟩
 have hN : (if (0 : Int) < M then M else 0) = m := by rw [← hM, ← hm]; unfold mx mn; (repeat' split) <;> omega
 go_enter Tryd.func60, Tryd.ntmps60
 go_wp2_with fail
 refine (next_bad g w0 _ b at_ bad m hI hB h).mono ?_
 rintro e w1 ⟨⟨rfl, hI1⟩, hB1, hK1⟩
 go_wp2_with fail
 go_ret
 exact ⟨⟨rfl, hI1⟩, hB1, hK1⟩
set_option maxHeartbeats 1000000 in
theorem take_bad (g : Nat) (w0 w : World) (b : List Int) (at_ : Int) (bad : Bool) (n : Int) (hI : IsS119 w0 w g b at_ bad) (hB : Below w0.heap.size w0 w) (h : ¬ (bad = false ∧ 0 ≤ n ∧ n ≤ b.length - at_)) :
  Calls Tryd.prog 108 #[.pointer (some ⟨g, 0, none⟩), .int .i64 n] w fun e w' =>
   (e = .returned (.slice none 0 0) ∧ IsS119 w0 w' g b at_ true) ∧ Below w0.heap.size w0 w' ∧ KeepBut w w' g none := by
 go_enter Tryd.func108, Tryd.ntmps108
 go_wp2_with fail
 refine (next_bad g w0 _ b at_ bad n hI hB h).mono ?_
 rintro e w1 ⟨⟨rfl, hI1⟩, hB1, hK1⟩
 go_wp2_with fail
 go_ret
 exact ⟨⟨rfl, hI1⟩, hB1, hK1⟩
set_option maxHeartbeats 1000000 in
theorem take_ok (g : Nat) (w0 w : World) (b : List Int) (at_ : Int) (n : Int) (L : List Int) (hL : L = (b.drop at_.toNat).take n.toNat) (hI : IsS119 w0 w g b at_ false) (hB : Below w0.heap.size w0 w) (h0 : 0 ≤ n) (h1 : n ≤ b.length - at_) (hbl : b.length ≤ 1000000000) (ha : 0 ≤ at_) :
  Calls Tryd.prog 108 #[.pointer (some ⟨g, 0, none⟩), .int .i64 n] w fun e w' =>
   (∃ v0_ : Value, e = .returned v0_ ∧ Kd.R (Kd.int .u8) 5 w' w.heap.size (fun _ => True) v0_ L ∧ IsS119 w0 w' g b (at_ + n) false) ∧ Below w0.heap.size w0 w' ∧ KeepBut w w' g none := by
 have hlen : L.length = n.toNat := by rw [hL]; simp; omega
 go_enter Tryd.func108, Tryd.ntmps108
 go_wp2_with fail
 refine (next_ok g w0 _ b at_ n hI hB h0 h1).mono ?_
 rintro e w1 ⟨⟨A, c, rfl, hC, hc, hI1⟩, hB1, hK1⟩
 rw [← hL, ← hlen] at hC
 rw [← hlen] at hc ⊢
 obtain ⟨Z, hZ⟩ : ∃ Z : List Value, Z.toArray = madeCells #[.int .u8 0] L.length := ⟨_, Array.toArray_toList⟩
 have hZs : Z.length = L.length := by have := congrArg Array.size hZ; simpa [size_madeCells] using this
 have hmk := make_lc (P := Tryd.prog) 28 5 .u8 1 Tryd.underlying28 infoU8 L.length L.length (L.length : Int) (by omega) (by omega) (by omega) (by omega)
 rw [← hZ] at hmk
 have HZ := zA hZs
 have HL := zA (show L.length ≤ 9223372036854775807 by omega)
 have HC := zA hC
 clear hL hZ hZs hlen h1 hC
 go_wp2_with ((with_reducible refine wpList_copy_splice rfl (.tmp 19) (.tmp 20) 28 28 rfl 5 Tryd.underlying28 sizeU8 (some ⟨w1.heap.size, 0, none⟩) (some A) L.length L.length L.length c rfl rfl w1.heap.size 0 Z 5 ?hg (nums .u8 L) ?hn ?hpos ?hfit (nums_one _ _) w1.heap.size w1 ((zX _ _).alloc (z5 _) _) (z5 _) ?_); rotate_left 4; intro w2 HG HB2; have HO := zA (own_copied (base := w.heap.size) HZ.out rfl (z5 _) HL.out hK1.1 HG.out); clear HG)
 case hg => exact heap_alloc_new w1 _
 case hpos =>
  intro hp
  obtain ⟨ad, e, hx⟩ := C_cells (zD HC.out (hB1.alloc hB1.size (.cells Z.toArray 5))) (by rwa [nums_length] at hp)
  cases e
  exact hx
 case hn => (simp [nums_length])
 case hfit => (have h1 := HZ.out; have h2 := nums_length .u8 L; omega)
 go_ret
 exact ⟨⟨_, rfl, Kd.R_of_own HO.out (fun _ _ => trivial), hI1.below HB2⟩, below_then hB1 hB1.size HB2, hK1.trans (KeepBut.of_below HB2 g none) (.inl rfl)⟩
end Go.Proofs.YtdbfgfgbjheibaaDoor.Given
end

section
/- The reader of octets, as the program reads: a text, what is left, where it is, whether it's bad, and a new one; any reader that is not past its end. -/
namespace Go.Proofs.YtdbfgfgbjheibaaDoor.Given
set_option linter.unusedVariables false
set_option linter.unusedSimpArgs false
open Go.RowKit Go.Proofs.YtdbfgfgbjheibaaDoorW.PrintWords Go.Proofs.YtdbfgfgbjheibaaDoorW.PrintLast Go.Proofs.YtdbfgfgbjheibaaDoorW.PrintMore
attribute [local go_sem] max2_int min2_int
set_option maxHeartbeats 1000000 in
theorem bad_calls (g : Nat) (w0 w : World) (b : List Int) (at_ : Int) (bad : Bool) (hI : IsS119 w0 w g b at_ bad) :
  Calls Tryd.prog 96 #[.pointer (some ⟨g, 0, none⟩)] w fun e w' => e = .returned (.bool bad) ∧ Drawn0 w w' := by
 obtain ⟨_, hb, hg, a, c, rfl, hr, hc, ha0, ha1⟩ := hI
 have c2 : w.cell? ⟨g, 2, none⟩ = some (.bool bad) := (zC hb 2).trans rfl
 go_enter Tryd.func96, Tryd.ntmps96
 go_wp2_with fail
 go_ret
 exact ⟨rfl, z4 _⟩
set_option maxHeartbeats 1000000 in
theorem left_calls (g : Nat) (w0 w : World) (b : List Int) (at_ : Int) (bad : Bool) (hI : IsS119 w0 w g b at_ bad) :
  Calls Tryd.prog 66 #[.pointer (some ⟨g, 0, none⟩)] w fun e w' => e = .returned (.int .i64 (if bad then 0 else b.length - at_)) ∧ Drawn0 w w' := by
 have hbad := zA (bad_calls g w0 w b at_ bad hI)
 obtain ⟨_, hb, hg, a, c, rfl, hr, hc, ha0, ha1⟩ := hI
 have c0 : w.cell? ⟨g, 0, none⟩ = some (.slice (some a) b.length c) := (zC hb 0).trans rfl
 have c1 : w.cell? ⟨g, 1, none⟩ = some (.int .i64 at_) := (zC hb 1).trans rfl
 have hbl : b.length ≤ 9223372036854775807 := hr.2.1
 have hw : IntKind.i64.wrap ((b.length : Int) - at_) = (b.length : Int) - at_ := IntWalk.i64_in _ (by omega)
 cases bad
 ·go_enter Tryd.func66, Tryd.ntmps66
  go_wp2_with fail
  refine hbad.out.mono ?_
  rintro e w1 ⟨rfl, n, rfl⟩
  go_wp2_with fail
  go_quiet (fail)
  go_wp2_with fail
  go_ret
  exact ⟨rfl, n + nq, rfl⟩
 ·go_enter Tryd.func66, Tryd.ntmps66
  go_wp2_with fail
  refine hbad.out.mono ?_
  rintro e w1 ⟨rfl, n, rfl⟩
  go_wp2_with fail
  go_ret
  exact ⟨rfl, n, rfl⟩
/-- What a reader tells of the next n bytes. -/
def okR (b : List Int) (at_ : Int) (bad : Bool) (n : Int) : Prop := bad = false ∧ 0 ≤ n ∧ n ≤ b.length - at_
instance (b : List Int) (at_ : Int) (bad : Bool) (n : Int) : Decidable (okR b at_ bad n) := by unfold okR; infer_instance
def cutR (b : List Int) (at_ n : Int) : List Int := (b.drop at_.toNat).take n.toNat
def numR (b : List Int) (at_ : Int) (bad : Bool) (many : Int) : Int × Int × Bool := if okR b at_ bad (mx 0 (mn many 8)) then (wrap64 (leN (cutR b at_ (mx 0 (mn many 8)))), at_ + mx 0 (mn many 8), false) else (0, at_, true)
def takeR (b : List Int) (at_ : Int) (bad : Bool) (n : Int) : List Int × Int × Bool := if okR b at_ bad n then (cutR b at_ n, at_ + n, false) else ([], at_, true)
def okB (b : List Int) : Bool := b.all (fun x => decide (0 ≤ x) && decide (x < 256)) && decide (b.length ≤ 1000000000)
theorem okB_all {b : List Int} (h : okB b = true) : (∀ x ∈ b, 0 ≤ x ∧ x < 256) ∧ b.length ≤ 1000000000 := by
 unfold okB at h
 simp only [Bool.and_eq_true, List.all_eq_true, decide_eq_true_eq] at h
 exact h
theorem num_calls (g : Nat) (w0 w : World) (b : List Int) (at_ : Int) (bad : Bool) (many : Int) (hI : IsS119 w0 w g b at_ bad) (hB : Below w0.heap.size w0 w) (hb : okB b = true) :
  Calls Tryd.prog 60 #[.pointer (some ⟨g, 0, none⟩), .int .i64 many] w fun e w' =>
   e = .returned (.int .i64 (numR b at_ bad many).1) ∧ IsS119 w0 w' g b (numR b at_ bad many).2.1 (numR b at_ bad many).2.2 ∧ Below w0.heap.size w0 w' ∧ KeepBut w w' g none := by
 unfold numR
 by_cases h : okR b at_ bad (mx 0 (mn many 8))
 ·rw [if_pos h]
  obtain ⟨rfl, h0, h1⟩ := h
  exact (num_ok g w0 w b at_ many _ rfl _ rfl hI hB h1 (okB_all hb).1).mono fun e w' ⟨⟨h1, h2⟩, h3, h4⟩ => ⟨h1, h2, h3, h4⟩
 ·rw [if_neg h]
  exact (num_bad g w0 w b at_ bad many _ rfl hI hB h).mono fun e w' ⟨⟨h1, h2⟩, h3, h4⟩ => ⟨h1, h2, h3, h4⟩
theorem take_calls (g : Nat) (w0 w : World) (b : List Int) (at_ : Int) (bad : Bool) (n : Int) (hI : IsS119 w0 w g b at_ bad) (hB : Below w0.heap.size w0 w) (hb : okB b = true) :
  Calls Tryd.prog 108 #[.pointer (some ⟨g, 0, none⟩), .int .i64 n] w fun e w' =>
   ∃ v0_ : Value, e = .returned v0_ ∧ Kd.R (Kd.int .u8) 5 w' w.heap.size (fun _ => True) v0_ (takeR b at_ bad n).1 ∧ IsS119 w0 w' g b (takeR b at_ bad n).2.1 (takeR b at_ bad n).2.2 ∧ Below w0.heap.size w0 w' ∧ KeepBut w w' g none := by
 unfold takeR
 by_cases h : okR b at_ bad n
 ·rw [if_pos h]
  obtain ⟨rfl, h0, h1⟩ := h
  have ha : 0 ≤ at_ := by obtain ⟨_, _, _, _, _, _, _, _, ha, _⟩ := hI; exact ha
  exact (take_ok g w0 w b at_ n _ rfl hI hB h0 h1 (okB_all hb).2 ha).mono fun e w' ⟨⟨v, h1, h2, h3⟩, h4, h5⟩ => ⟨v, h1, h2, h3, h4, h5⟩
 ·rw [if_neg h]
  exact (take_bad g w0 w b at_ bad n hI hB h).mono fun e w' ⟨⟨h1, h2⟩, h3, h4⟩ => ⟨_, h1, Kd.R_nil _ _ _ _ _, h2, h3, h4⟩
/-- A text: as many bytes as the next byte says. -/
def textR (b : List Int) (at_ : Int) (bad : Bool) : ByteArray × Int × Bool :=
 let t := numR b at_ bad 1
 let u := takeR b t.2.1 t.2.2 t.1
 (strOfNums u.1, u.2.1, u.2.2)
set_option maxHeartbeats 1000000 in
theorem text_calls (g : Nat) (w0 w : World) (b : List Int) (at_ : Int) (bad : Bool) (hI : IsS119 w0 w g b at_ bad) (hB : Below w0.heap.size w0 w) (hb : okB b = true) :
  Calls Tryd.prog 93 #[.pointer (some ⟨g, 0, none⟩)] w fun e w' =>
   e = .returned (.string (textR b at_ bad).1) ∧ IsS119 w0 w' g b (textR b at_ bad).2.1 (textR b at_ bad).2.2 ∧ Below w0.heap.size w0 w' ∧ KeepBut w w' g none := by
 unfold textR
 dsimp only
 generalize ht : numR b at_ bad 1 = t
 generalize hu : takeR b t.2.1 t.2.2 t.1 = u
 have HT := zA ht
 have HU := zA hu
 have HB := zA hb
 clear ht hu hb
 go_enter Tryd.func93, Tryd.ntmps93
 go_wp2_with fail
 refine (num_calls g w0 _ b at_ bad 1 hI hB HB.out).mono ?_
 rw [HT.out]
 rintro e w1 ⟨rfl, hI1, hB1, hK1⟩
 go_wp2_with fail
 refine (take_calls g w0 _ b t.2.1 t.2.2 t.1 hI1 hB1 HB.out).mono ?_
 rw [HU.out]
 rintro e w2 ⟨v, rfl, ho, hI2, hB2, hK2⟩
 have hcv := own_string (P := Tryd.prog) Tryd.underlying28 Tryd.underlying5 Tryd.underlying9 (Kd.own_of_R ho)
 go_wp2_with fail
 go_ret
 exact ⟨rfl, hI2, hB2, hK1.trans hK2 (.inl rfl)⟩
set_option maxHeartbeats 1000000 in
theorem new_calls (A0 : Option Addr) (c0 : Nat) (L : List Int) (w : World) (hr0 : Kd.C (Kd.int .u8) w A0 L.length L) (hc0 : L.length ≤ c0) (hl : L.length ≤ 1000000000) :
  Calls Tryd.prog 59 #[.slice A0 L.length c0] w fun e w' => ∃ (w1 : World) (g : Nat), e = .returned (.pointer (some ⟨g, 0, none⟩)) ∧ IsS119 w1 w' g L 0 false ∧ Below w.heap.size w w1 ∧ Below w1.heap.size w1 w' := by
 obtain ⟨Z, hZ⟩ : ∃ Z : List Value, Z.toArray = madeCells #[.int .u8 0] L.length := ⟨_, Array.toArray_toList⟩
 have hZs : Z.length = L.length := by have := congrArg Array.size hZ; simpa [size_madeCells] using this
 have hmk := make_lc (P := Tryd.prog) 28 5 .u8 1 Tryd.underlying28 infoU8 L.length L.length (L.length : Int) (by omega) (by omega) (by omega) (by omega)
 rw [← hZ] at hmk
 have HZ := zA hZs
 have HL := zA (show L.length ≤ 9223372036854775807 by omega)
 have HC := zA hr0
 clear hZ hZs hr0 hl
 go_enter Tryd.func59, Tryd.ntmps59
 go_wp2_with ((with_reducible refine wpList_copy_splice rfl (.tmp 7) (.tmp 8) 28 28 rfl 5 Tryd.underlying28 sizeU8 (some ⟨w.heap.size, 0, none⟩) A0 L.length L.length L.length c0 rfl rfl w.heap.size 0 Z 5 ?hg (nums .u8 L) ?hn ?hpos ?hfit (nums_one _ _) w.heap.size w ((zX _ _).alloc (z5 _) _) (z5 _) ?_); rotate_left 4; intro w2 HG HB2; have HO := zA (own_copied (base := w.heap.size) HZ.out rfl (z5 _) HL.out (z5 _) HG.out); clear HG)
 case hg => exact heap_alloc_new w _
 case hpos =>
  intro hp
  have hx := C_cells (zD HC.out ((zX _ _).alloc (z5 _) (.cells Z.toArray 5))) (by rwa [nums_length] at hp)
  first | exact ⟨rfl, hx⟩ | exact hx
 case hn => (simp [nums_length])
 case hfit => (have h1 := HZ.out; have h2 := nums_length .u8 L; omega)
 go_ret
 have hR : Kd.R (Kd.int .u8) 5 w2 w.heap.size (fun _ => True) (.slice (some ⟨w.heap.size, 0, none⟩) L.length L.length) L := Kd.R_of_own HO.out (fun _ _ => trivial)
 have hCC := (Kd.R_reads' hR).2.2
 exact ⟨w2, w2.heap.size, rfl, ⟨_, heap_alloc_new _ _, z5 _, ⟨w.heap.size, 0, none⟩, L.length, rfl, hCC, z5 _, Int.le_refl _, Int.natCast_nonneg _⟩, HB2, (zX _ _).alloc (z5 _) _⟩
end Go.Proofs.YtdbfgfgbjheibaaDoor.Given
end

section
/- The document's reader of octets: what it tells of the next bytes; any reader that is not past its end. -/
namespace Go.Proofs.YtdbfgfgbjheibaaDoor.Given
set_option linter.unusedVariables false
set_option linter.unusedSimpArgs false
open Go.RowKit Go.Proofs.YtdbfgfgbjheibaaDoorW.PrintWords Go.Proofs.YtdbfgfgbjheibaaDoorW.PrintLast Go.Proofs.YtdbfgfgbjheibaaDoorW.PrintMore
attribute [local go_sem] max2_int min2_int
/-- The cells of a document's reader of f0, that is at f1: what is left lies behind. -/
def CsF (w0 : World) (cs : Array Value) (f0 : List Int) (f1 : Int) (f2 : Bool) : Prop := ∃ a c, cs = #[.slice a (f0.drop f1.toNat).length c, .int .i64 f1, .bool f2] ∧ Kd.C (Kd.int .u8) w0 a (f0.drop f1.toNat).length (f0.drop f1.toNat) ∧ (f0.drop f1.toNat).length ≤ c ∧ 0 ≤ f1 ∧ f1 ≤ f0.length
/-- A state of this type at block g of W. -/
def IsS71 (w0 W : World) (g : Nat) (f0 : List Int) (f1 : Int) (f2 : Bool) : Prop := ∃ cs, W.heap[g]? = some (.cells cs 71 (0, 0)) ∧ w0.heap.size ≤ g ∧ CsF w0 cs f0 f1 f2
theorem IsS71.grown {w0 W : World} {g : Nat} {f0 : List Int} {f1 : Int} {f2 : Bool} {W1 : World} {row : Option Nat} (h : IsS71 w0 W g f0 f1 f2) (hw : W.grownBy W1 row) (hne : some g ≠ row) : IsS71 w0 W1 g f0 f1 f2 := by
 obtain ⟨cs, hb, hg, hx⟩ := h
 exact ⟨cs, blk_grown hb hw hne, hg, hx⟩
theorem IsS71.kept {w0 W : World} {g : Nat} {f0 : List Int} {f1 : Int} {f2 : Bool} {W1 : World} {S : Nat → Prop} (h : IsS71 w0 W g f0 f1 f2) (hk : Kept W W1 S) (hne : ¬ S g) : IsS71 w0 W1 g f0 f1 f2 := by
 obtain ⟨cs, hb, hg, hx⟩ := h
 exact ⟨cs, blk_kept hb hk hne, hg, hx⟩
theorem IsS71.below {w0 W : World} {g : Nat} {f0 : List Int} {f1 : Int} {f2 : Bool} {W1 : World} (h : IsS71 w0 W g f0 f1 f2) (hw : Below W.heap.size W W1) : IsS71 w0 W1 g f0 f1 f2 := h.grown (grown_of_below hw none) (by simp)
theorem IsS71.alloc {w0 W : World} {g : Nat} {f0 : List Int} {f1 : Int} {f2 : Bool} (h : IsS71 w0 W g f0 f1 f2) (o : Obj) : IsS71 w0 (W.alloc o) g f0 f1 f2 := h.below (zB (zX _ _) o)
theorem IsS71.drewN {w0 W : World} {g : Nat} {f0 : List Int} {f1 : Int} {f2 : Bool} (h : IsS71 w0 W g f0 f1 f2) (m : Nat) : IsS71 w0 (W.drewN m) g f0 f1 f2 := h
theorem IsS71.drew {w0 W : World} {g : Nat} {f0 : List Int} {f1 : Int} {f2 : Bool} (h : IsS71 w0 W g f0 f1 f2) : IsS71 w0 W.drew g f0 f1 f2 := h
theorem IsS71.at_ {w0 W : World} {g : Nat} {f0 : List Int} {f1 : Int} {f2 : Bool} {w' : World} {m : Nat} (hq : W.drewN m = w') (h : IsS71 w0 W g f0 f1 f2) : IsS71 w0 w' g f0 f1 f2 := by subst hq; exact IsS71.drewN h m
theorem IsS71.apart {w0 W : World} {g : Nat} {f0 : List Int} {f1 : Int} {f2 : Bool} {α : Type} {d : Kd α} {e : Nat} {base : Nat} {ok : Nat → Prop} {v : Value} {xs : List α} (h : IsS71 w0 W g f0 f1 f2) (ho : d.R e W base ok v xs) (ht : ∀ q, q ∈ e :: d.E → q ≠ 71) : d.R e W base (fun k => ok k ∧ k ≠ g) v xs := by
 obtain ⟨cs, hb, hg, hx⟩ := h
 exact Kd.R_types ho hb ht
theorem IsS71.own_ne {w0 W : World} {g : Nat} {f0 : List Int} {f1 : Int} {f2 : Bool} {α : Type} {d : Kd α} {e : Nat} {base : Nat} {ok : Nat → Prop} {v : Value} {xs : List α} (h : IsS71 w0 W g f0 f1 f2) (ho : d.R e W base ok v xs) (ht : e ≠ 71) : some g ≠ v.ownBlock := by
 obtain ⟨cs, hb, hg, hx⟩ := h
 exact Kd.R_ne ho hb ht
theorem IsS71.far {w0 W : World} {g : Nat} {f0 : List Int} {f1 : Int} {f2 : Bool} {p : Addr} (h : IsS71 w0 W g f0 f1 f2) (hne : g ≠ p.block) (u : Value) : IsS71 w0 (W.setCell p u) g f0 f1 f2 := by
 obtain ⟨cs, hb, hg, hx⟩ := h
 exact ⟨cs, blk_far hb hne u, hg, hx⟩
set_option maxHeartbeats 1000000 in
theorem rtake_ok (g : Nat) (w0 w : World) (b : List Int) (at_ : Int) (n : Int) (hI : IsS71 w0 w g b at_ false) (hB : Below w0.heap.size w0 w) (h0 : 0 ≤ n) (h1 : n ≤ b.length - at_) (hbl : b.length ≤ 1000000000) :
  Calls Tryd.prog 77 #[.pointer (some ⟨g, 0, none⟩), .int .i64 n] w fun e w' =>
   (∃ A c, e = .returned (.slice A n.toNat c) ∧ Kd.C (Kd.int .u8) w0 A n.toNat (cutR b at_ n) ∧ n.toNat ≤ c ∧ IsS71 w0 w' g b (at_ + n) false) ∧ Below w0.heap.size w0 w' ∧ KeepBut w w' g none := by
 obtain ⟨_, hb, hg, a, c, rfl, hr, hc, ha0, ha1⟩ := hI
 obtain ⟨L, hL⟩ : ∃ L, L = b.drop at_.toNat := ⟨_, rfl⟩
 have hLl : (L.length : Int) = b.length - at_ := by rw [hL]; simp; omega
 have hcut : cutR b at_ n = L.take n.toNat := by unfold cutR; rw [hL]
 have hnx : b.drop (at_ + n).toNat = L.drop n.toNat := by rw [hL, List.drop_drop]; congr 1; omega
 rw [← hL] at hb hr hc
 rw [hcut]
 have hD := Kd.C_drop (k := Kd.int .u8) (m := n.toNat) (c := c) hr (by omega) hc
 have hT := Kd.C_take (k := Kd.int .u8) (m := n.toNat) hr (by omega)
 rw [show (L.take n.toNat).length = n.toNat by simp; omega] at hT
 rw [show n.toNat * (Kd.int .u8).sz = n.toNat from Nat.mul_one _] at hD
 have HN := zA (show ∀ (W1 : World) (A' : Option Addr) (c' : Nat), W1.heap[g]? = some (.cells #[.slice A' (L.length - n.toNat) c', .int .i64 (at_ + n), .bool false] 71 (0, 0)) → (if c = n.toNat then a else a.map (·.add n.toNat)) = A' → c' = c - n.toNat → IsS71 w0 W1 g b (at_ + n) false by
  intro W1 A' c' hb1 hA hc'
  rw [hA] at hD
  refine ⟨_, hb1, hg, A', c', ?_, ?_, ?_, by omega, by omega⟩
  ·rw [hnx, zd]
  ·rw [hnx]; exact hD
  ·rw [hnx, zd]; omega)
 have HT := zA hT
 have hab : at_ + n ≤ 1000000000 := by omega
 have hwb : 0 ≤ at_ + n := by omega
 have hcm : n.toNat ≤ c := by omega
 clear hL hnx hD hT hcut
 have hK := KeepBut.refl w g none
 have hLb : L.length ≤ 9223372036854775807 := hr.2.1
 have c0 : w.cell? ⟨g, 0, none⟩ = some (.slice a L.length c) := (zC hb 0).trans rfl
 have c1 : w.cell? ⟨g, 1, none⟩ = some (.int .i64 at_) := (zC hb 1).trans rfl
 have c2 : w.cell? ⟨g, 2, none⟩ = some (.bool false) := (zC hb 2).trans rfl
 have f0 := zF hb 0
 have f1 := zF hb 1
 have f2 := zF hb 2
 have d0 : decide (n < 0) = false := decide_eq_false (by omega)
 have d1 : decide ((L.length : Int) < n) = false := decide_eq_false (by omega)
 go_enter Tryd.func77, Tryd.ntmps77
 go_wp2_with fail
 all_goals go_ret
 ·rename_i h
  refine ⟨⟨a, n.toNat, rfl, HT.out, by omega, HN.out _ a 0 (blk_put (blk_put hb 0 _ rfl) 1 _ rfl) (if_pos h) (by omega)⟩, zE (zE hB hg) hg, KeepBut.set_ (KeepBut.set_ hK 0 _) 1 _⟩
 ·rename_i h
  refine ⟨⟨a, c, rfl, HT.out, by omega, HN.out _ (a.map (·.add n.toNat)) (c - n.toNat) (blk_put (blk_put hb 0 _ rfl) 1 _ rfl) (if_neg h) rfl⟩, zE (zE hB hg) hg, KeepBut.set_ (KeepBut.set_ hK 0 _) 1 _⟩
set_option maxHeartbeats 1000000 in
theorem rtake_bad (g : Nat) (w0 w : World) (b : List Int) (at_ : Int) (bad : Bool) (n : Int) (hI : IsS71 w0 w g b at_ bad) (hB : Below w0.heap.size w0 w) (h : ¬ okR b at_ bad n) :
  Calls Tryd.prog 77 #[.pointer (some ⟨g, 0, none⟩), .int .i64 n] w fun e w' =>
   (e = .returned (.slice none 0 0) ∧ IsS71 w0 w' g b at_ true) ∧ Below w0.heap.size w0 w' ∧ KeepBut w w' g none := by
 unfold okR at h
 obtain ⟨_, hb, hg, a, c, rfl, hr, hc, ha0, ha1⟩ := hI
 have HX := zA (show ∀ W1 : World, W1.heap[g]? = some (.cells #[.slice a (b.drop at_.toNat).length c, .int .i64 at_, .bool true] 71 (0, 0)) → IsS71 w0 W1 g b at_ true from fun W1 hb1 => ⟨_, hb1, hg, a, c, rfl, hr, hc, ha0, ha1⟩)
 have hLl : (((b.drop at_.toNat).length : Nat) : Int) = b.length - at_ := by simp; omega
 generalize b.drop at_.toNat = L at *
 have hK := KeepBut.refl w g none
 have c0 : w.cell? ⟨g, 0, none⟩ = some (.slice a L.length c) := (zC hb 0).trans rfl
 have c2 : w.cell? ⟨g, 2, none⟩ = some (.bool bad) := (zC hb 2).trans rfl
 have f2 := zF hb 2
 have HF := zA hb
 cases bad
 ·by_cases h0 : n < 0
  ·have d0 : decide (n < 0) = true := decide_eq_true h0
   clear h hLl
   go_enter Tryd.func77, Tryd.ntmps77
   go_wp2_with fail
   go_ret
   exact ⟨⟨rfl, HX.out _ (blk_put HF.out 2 _ rfl)⟩, zE hB hg, KeepBut.set_ hK 2 _⟩
  ·have d0 : decide (n < 0) = false := decide_eq_false h0
   have h1 : (L.length : Int) < n := by by_cases h1 : n ≤ b.length - at_; exact absurd ⟨rfl, by omega, h1⟩ h; omega
   have d1 : decide ((L.length : Int) < n) = true := decide_eq_true h1
   clear h hLl
   go_enter Tryd.func77, Tryd.ntmps77
   go_wp2_with fail
   go_ret
   exact ⟨⟨rfl, HX.out _ (blk_put HF.out 2 _ rfl)⟩, zE hB hg, KeepBut.set_ hK 2 _⟩
 ·clear h hLl
  go_enter Tryd.func77, Tryd.ntmps77
  go_wp2_with fail
  go_ret
  exact ⟨⟨rfl, HX.out _ (blk_put HF.out 2 _ rfl)⟩, zE hB hg, KeepBut.set_ hK 2 _⟩
theorem held_calls (many : Int) (w : World) : Calls Tryd.prog 73 #[.int .i64 many] w fun e w' => e = .returned (.int .i64 (mx 0 (mn many 8))) ∧ w' = w := by
 by_cases h0 : many < 0
 ·rw [show mx 0 (mn many 8) = 0 by unfold mx mn; (repeat' split) <;> omega]
  go_enter Tryd.func73, Tryd.ntmps73
  go_wp2_with fail
  go_ret
  exact ⟨rfl, rfl⟩
 ·by_cases h8 : 8 < many
  ·rw [show mx 0 (mn many 8) = 8 by unfold mx mn; (repeat' split) <;> omega]
   go_enter Tryd.func73, Tryd.ntmps73
   go_wp2_with fail
   go_ret
   exact ⟨rfl, rfl⟩
  ·rw [show mx 0 (mn many 8) = many by unfold mx mn; (repeat' split) <;> omega]
   go_enter Tryd.func73, Tryd.ntmps73
   go_wp2_with fail
   go_ret
   exact ⟨rfl, rfl⟩
theorem leN_drop (L : List Int) (j : Nat) (h : j < L.length) : leN (L.drop j) = L[j] + 256 * leN (L.drop (j + 1)) := by
 rw [List.drop_eq_getElem_cons h]
 rfl
theorem leN_8 (L : List Int) (hb : ∀ x ∈ L, 0 ≤ x ∧ x < 256) (j : Nat) (hj : L.length ≤ j + 8) : 0 ≤ leN (L.drop j) ∧ leN (L.drop j) < 18446744073709551616 := by
 have h := leN_lim (L.drop j) (fun x hx => hb x (List.mem_of_mem_drop hx))
 have hp : (2 : Int) ^ (8 * (L.drop j).length) ≤ 2 ^ 64 := by
  have : 2 ^ (8 * (L.drop j).length) ≤ 2 ^ 64 := Nat.pow_le_pow_right (by decide) (by simp; omega)
  exact_mod_cast this
 refine ⟨h.1, ?_⟩
 have : (2 : Int) ^ 64 = 18446744073709551616 := rfl
 omega
set_option maxHeartbeats 2000000 in
theorem rnum_ok (g : Nat) (w0 w : World) (b : List Int) (at_ : Int) (many m : Int) (hm : mx 0 (mn many 8) = m) (L : List Int) (hL : L = cutR b at_ m) (hI : IsS71 w0 w g b at_ false) (hB : Below w0.heap.size w0 w) (h1 : m ≤ b.length - at_) (hb : ∀ x ∈ b, 0 ≤ x ∧ x < 256) (hbl : b.length ≤ 1000000000) (ha : 0 ≤ at_) :
  Calls Tryd.prog 41 #[.pointer (some ⟨g, 0, none⟩), .int .i64 many] w fun e w' =>
   (e = .returned (.int .i64 (wrap64 (leN L))) ∧ IsS71 w0 w' g b (at_ + m) false) ∧ Below w0.heap.size w0 w' ∧ KeepBut w w' g none := by
 have hm0 : 0 ≤ m := by rw [← hm]; unfold mx; split <;> omega
 have hm8 : m ≤ 8 := by rw [← hm]; unfold mx mn; (repeat' split) <;> omega
 have hH := zA (held_calls many w)
 rw [hm] at hH
 go_enter Tryd.func41, Tryd.ntmps41
 go_wp2_with fail
 refine hH.out.mono ?_
 rintro e w2 ⟨rfl, rfl⟩
 go_wp2_with fail
 refine (rtake_ok g w0 _ b at_ m hI hB hm0 h1 hbl).mono ?_
 rintro e w1 ⟨⟨A, c, rfl, hC, hc, hI1⟩, hB1, hK1⟩
 rw [← hL] at hC
 have hlen : L.length = m.toNat := by have := hC.1; omega
 have hcells : ∀ j : Nat, ∀ h : j < L.length, ∃ ad, A = some ad ∧ w1.cell? (ad.add j) = some (.int .u8 L[j]) := by
  intro j h
  obtain ⟨ad, e, hc⟩ := C_cells (zD hC hB1) (by omega)
  exact ⟨ad, e, hc j _ (by simp [nums, h])⟩
 have hrange : ∀ x ∈ L, 0 ≤ x ∧ x < 256 := by
  intro x hx
  rw [hL] at hx
  exact hb x (List.mem_of_mem_drop (List.mem_of_mem_take hx))
 have HL := zA hrange
 have HN := zA hlen
 have HC := zA hcells
 have HM := zA hm8
 clear hm h1 hL hb hrange hlen hcells hC hH ha hbl
 go_wp2_with fail
 go_loopw [6, 7] (fun x i wr => ∃ j : Nat, j ≤ m.toNat ∧ i = .int .i64 ((j : Int) - 1) ∧ x = .int .u64 (leN (L.drop j)) ∧ wr = w1) (fun _ i _ => (intOf i + 1).toNat)
 case atStart => exact ⟨m.toNat, z5 _, by congr 1; omega, by rw [List.drop_of_length_le (by have := HN.out; omega)]; rfl, rfl⟩
 case round =>
  obtain ⟨j, hj, rfl, rfl, rfl⟩ := hrel
  cases j with
  | zero =>
   go_wp2_with fail
   go_ret
   rw [List.drop_zero]
   exact ⟨⟨rfl, hI1⟩, hB1, hK1⟩
  | succ j =>
   have hlj : j < L.length := by have := HN.out; omega
   obtain ⟨ad, rfl, hce⟩ := HC.out j hlj
   have hx := HL.out _ (List.getElem_mem hlj)
   have hs := leN_drop L j hlj
   have h8 := leN_8 L HL.out j (by have := HN.out; omega)
   have h9 := leN_8 L HL.out (j + 1) (by have := HN.out; omega)
   generalize leN (L.drop (j + 1)) = v at *
   have hs := zA hs
   have h8 := zA h8
   rw [show ((j + 1 : Nat) : Int) - 1 = (j : Int) by omega]
   go_wp2_with fail
   refine ⟨⟨j, by omega, rfl, ?_, trivial⟩, by first | (simp [intOf]; done) | (simp [intOf]; omega)⟩
   rw [hs.out]
   congr 1
   omega
theorem rnum_bad (g : Nat) (w0 w : World) (b : List Int) (at_ : Int) (bad : Bool) (many m : Int) (hm : mx 0 (mn many 8) = m) (hI : IsS71 w0 w g b at_ bad) (hB : Below w0.heap.size w0 w) (h : ¬ okR b at_ bad m) :
  Calls Tryd.prog 41 #[.pointer (some ⟨g, 0, none⟩), .int .i64 many] w fun e w' =>
   (e = .returned (.int .i64 0) ∧ IsS71 w0 w' g b at_ true) ∧ Below w0.heap.size w0 w' ∧ KeepBut w w' g none := by
 have hH := zA (held_calls many w)
 rw [hm] at hH
 go_enter Tryd.func41, Tryd.ntmps41
 go_wp2_with fail
 refine hH.out.mono ?_
 rintro e w2 ⟨rfl, rfl⟩
 go_wp2_with fail
 refine (rtake_bad g w0 _ b at_ bad m hI hB h).mono ?_
 rintro e w1 ⟨⟨rfl, hI1⟩, hB1, hK1⟩
 go_wp2_with fail
 go_loopw [6, 7] (fun x i wr => i = .int .i64 (-1) ∧ x = .int .u64 0 ∧ wr = w1) (fun _ _ _ => 0)
 case atStart => exact ⟨rfl, rfl, rfl⟩
 case round =>
  obtain ⟨rfl, rfl, rfl⟩ := hrel
  go_wp2_with fail
  go_ret
  exact ⟨⟨rfl, hI1⟩, hB1, hK1⟩
theorem at_range {w0 w : World} {g : Nat} {b : List Int} {at_ : Int} {bad : Bool} (hI : IsS71 w0 w g b at_ bad) : 0 ≤ at_ := by
 obtain ⟨_, _, _, _, _, _, _, _, ha, _⟩ := hI
 exact ha
theorem rnum_calls (g : Nat) (w0 w : World) (b : List Int) (at_ : Int) (bad : Bool) (many : Int) (hI : IsS71 w0 w g b at_ bad) (hB : Below w0.heap.size w0 w) (hb : okB b = true) :
  Calls Tryd.prog 41 #[.pointer (some ⟨g, 0, none⟩), .int .i64 many] w fun e w' =>
   e = .returned (.int .i64 (numR b at_ bad many).1) ∧ IsS71 w0 w' g b (numR b at_ bad many).2.1 (numR b at_ bad many).2.2 ∧ Below w0.heap.size w0 w' ∧ KeepBut w w' g none := by
 unfold numR
 by_cases h : okR b at_ bad (mx 0 (mn many 8))
 ·rw [if_pos h]
  obtain ⟨rfl, h0, h1⟩ := h
  exact (rnum_ok g w0 w b at_ many _ rfl _ rfl hI hB h1 (okB_all hb).1 (okB_all hb).2 (at_range hI)).mono fun e w' ⟨⟨h1, h2⟩, h3, h4⟩ => ⟨h1, h2, h3, h4⟩
 ·rw [if_neg h]
  exact (rnum_bad g w0 w b at_ bad many _ rfl hI hB h).mono fun e w' ⟨⟨h1, h2⟩, h3, h4⟩ => ⟨h1, h2, h3, h4⟩
theorem rtake_calls (g : Nat) (w0 w : World) (b : List Int) (at_ : Int) (bad : Bool) (n : Int) (hI : IsS71 w0 w g b at_ bad) (hB : Below w0.heap.size w0 w) (hb : okB b = true) :
  Calls Tryd.prog 77 #[.pointer (some ⟨g, 0, none⟩), .int .i64 n] w fun e w' =>
   ∃ A c, e = .returned (.slice A (takeR b at_ bad n).1.length c) ∧ Kd.C (Kd.int .u8) w0 A (takeR b at_ bad n).1.length (takeR b at_ bad n).1 ∧ (takeR b at_ bad n).1.length ≤ c ∧ IsS71 w0 w' g b (takeR b at_ bad n).2.1 (takeR b at_ bad n).2.2 ∧ Below w0.heap.size w0 w' ∧ KeepBut w w' g none := by
 unfold takeR
 by_cases h : okR b at_ bad n
 ·rw [if_pos h]
  obtain ⟨rfl, h0, h1⟩ := h
  have hl : (cutR b at_ n).length = n.toNat := by have := at_range hI; unfold cutR; simp; omega
  refine (rtake_ok g w0 w b at_ n hI hB h0 h1 (okB_all hb).2).mono fun e w' ⟨⟨A, c, h1, h2, h3, h4⟩, h5, h6⟩ => ⟨A, c, ?_, ?_, ?_, h4, h5, h6⟩
  ·rw [h1]; dsimp only; rw [hl]
  ·dsimp only; rw [hl]; exact h2
  ·dsimp only; rw [hl]; exact h3
 ·rw [if_neg h]
  exact (rtake_bad g w0 w b at_ bad n hI hB h).mono fun e w' ⟨⟨h1, h2⟩, h3, h4⟩ => ⟨none, 0, h1, ⟨rfl, Nat.zero_le _, fun h => absurd h (Nat.lt_irrefl 0)⟩, z5 _, h2, h3, h4⟩
set_option maxHeartbeats 1000000 in
theorem rtext_calls (g : Nat) (w0 w : World) (b : List Int) (at_ : Int) (bad : Bool) (hI : IsS71 w0 w g b at_ bad) (hB : Below w0.heap.size w0 w) (hb : okB b = true) :
  Calls Tryd.prog 103 #[.pointer (some ⟨g, 0, none⟩)] w fun e w' =>
   e = .returned (.string (textR b at_ bad).1) ∧ IsS71 w0 w' g b (textR b at_ bad).2.1 (textR b at_ bad).2.2 ∧ Below w0.heap.size w0 w' ∧ KeepBut w w' g none := by
 unfold textR
 dsimp only
 generalize ht : numR b at_ bad 1 = t
 generalize hu : takeR b t.2.1 t.2.2 t.1 = u
 have HT := zA ht
 have HU := zA hu
 have HB := zA hb
 clear ht hu hb
 go_enter Tryd.func103, Tryd.ntmps103
 go_wp2_with fail
 refine (rnum_calls g w0 _ b at_ bad 1 hI hB HB.out).mono ?_
 rw [HT.out]
 rintro e w1 ⟨rfl, hI1, hB1, hK1⟩
 go_wp2_with fail
 refine (rtake_calls g w0 _ b t.2.1 t.2.2 t.1 hI1 hB1 HB.out).mono ?_
 rw [HU.out]
 rintro e w2 ⟨A, c, rfl, hC, hc, hI2, hB2, hK2⟩
 have hcv := Kd.C_string (c := c) (P := Tryd.prog) Tryd.underlying28 Tryd.underlying5 Tryd.underlying9 (zD hC hB2)
 go_wp2_with fail
 go_ret
 exact ⟨rfl, hI2, hB2, hK1.trans hK2 (.inl rfl)⟩
end Go.Proofs.YtdbfgfgbjheibaaDoor.Given
end

section
/- Two readers at once: each one's contracts taken over the world cut to the blocks below it. -/
namespace Go.Proofs.YtdbfgfgbjheibaaDoor.Given
open Go Go.RowKit Go.Proofs.YtdbfgfgbjheibaaDoorW.PrintWords Go.Proofs.YtdbfgfgbjheibaaDoorW.PrintLast Go.Proofs.YtdbfgfgbjheibaaDoorW.PrintMore
set_option linter.unusedVariables false
/-- The world's blocks below g alone. -/
def cut (w : World) (g : Nat) : World := { w with heap := w.heap.extract 0 g }
theorem cut_size {w : World} {g : Nat} (h : g ≤ w.heap.size) : (cut w g).heap.size = g := by simp [cut]; omega
theorem cut_get {w : World} {g k : Nat} (hk : k < g) (h : g ≤ w.heap.size) : (cut w g).heap[k]? = w.heap[k]? := by
 simp only [cut, Array.getElem?_extract]
 rw [if_pos (by omega), Nat.zero_add]
theorem cut_below {w : World} {g : Nat} (h : g ≤ w.heap.size) : Below (cut w g).heap.size (cut w g) w := ⟨rfl, rfl, rfl, by rw [cut_size h]; exact h, fun k hk => by rw [cut_size h] at hk; exact (cut_get hk h).symm⟩
theorem C_same {w w1 : World} {A : Option Addr} {b : List Int} (h : Kd.C (Kd.int .u8) w A b.length b) (hs : 0 < b.length → ∀ ad, A = some ad → w1.heap[ad.block]? = w.heap[ad.block]?) : Kd.C (Kd.int .u8) w1 A b.length b :=
 ⟨h.1, h.2.1, fun hn => by
  obtain ⟨ad, e, hc⟩ := h.2.2 hn
  refine ⟨ad, e, fun j p hj => ?_⟩
  obtain ⟨c, hz, hr, hcell⟩ := hc j p hj
  exact ⟨c, hz, hr, fun i u hu => (World.cell?_of_block (w := w) (by rw [add_block]; exact hs hn ad e)).trans (hcell i u hu)⟩⟩
theorem C_lt {w : World} {a : Addr} {b : List Int} (h : Kd.C (Kd.int .u8) w (some a) b.length b) (hn : 0 < b.length) : a.block < w.heap.size := by
 obtain ⟨ad, e, hc⟩ := Kd.at_int h 0 (by omega) (by omega)
 injection e with e
 subst e
 have := zL w _ hc
 rw [add_block] at this
 exact this
/-- The program's reader, of any world. -/
def RI (W : World) (g : Nat) (b : List Int) (at_ : Int) (bad : Bool) : Prop := ∃ a c, W.heap[g]? = some (.cells #[.slice (some a) b.length c, .int .i64 at_, .bool bad] 119 (0, 0)) ∧ Kd.C (Kd.int .u8) W (some a) b.length b ∧ b.length ≤ c ∧ 0 ≤ at_ ∧ at_ ≤ b.length ∧ (0 < b.length → a.block < g)
theorem RI.of {w0 W : World} {g : Nat} {b : List Int} {at_ : Int} {bad : Bool} (h : IsS119 w0 W g b at_ bad) (hB : Below w0.heap.size w0 W) : RI W g b at_ bad := by
 obtain ⟨cs, hb, hg, a, c, rfl, hC, hle, h0, h1⟩ := h
 exact ⟨a, c, hb, zD hC hB, hle, h0, h1, fun hn => Nat.lt_of_lt_of_le (C_lt hC hn) hg⟩
theorem RI.cut {W : World} {g : Nat} {b : List Int} {at_ : Int} {bad : Bool} (h : RI W g b at_ bad) : IsS119 (cut W g) W g b at_ bad ∧ Below (Given.cut W g).heap.size (Given.cut W g) W := by
 obtain ⟨a, c, hb, hC, hle, h0, h1, hl⟩ := h
 have hg : g ≤ W.heap.size := Nat.le_of_lt (blk_lt hb)
 refine ⟨⟨_, hb, by rw [cut_size hg]; exact z5 _, a, c, rfl, C_same hC (fun hn ad e => by injection e with e; subst e; exact cut_get (hl hn) hg), hle, h0, h1⟩, cut_below hg⟩
theorem cut_bk {W w' : World} {g : Nat} (hk : KeepBut W w' g none) (hB : Below (cut W g).heap.size (cut W g) w') (hg : g ≤ W.heap.size) : Below g W w' :=
 ⟨hB.os, hB.tape, hB.output, hk.1, fun k hlt => (hB.block k (by rw [cut_size hg]; exact hlt)).trans (cut_get hlt hg)⟩
theorem RI.lt {W : World} {g : Nat} {b : List Int} {at_ : Int} {bad : Bool} (h : RI W g b at_ bad) : g ≤ W.heap.size := by
 obtain ⟨_, _, hb, _⟩ := h
 exact Nat.le_of_lt (blk_lt hb)
theorem num_i (g : Nat) (W : World) (b : List Int) (at_ : Int) (bad : Bool) (many : Int) (h : RI W g b at_ bad) (hb : okB b = true) :
  Calls Tryd.prog 60 #[.pointer (some ⟨g, 0, none⟩), .int .i64 many] W fun e w' => e = .returned (.int .i64 (numR b at_ bad many).1) ∧ RI w' g b (numR b at_ bad many).2.1 (numR b at_ bad many).2.2 ∧ KeepBut W w' g none ∧ Below g W w' :=
 (num_calls g (cut W g) W b at_ bad many h.cut.1 h.cut.2 hb).mono fun e w' ⟨h1, h2, h3, h4⟩ => ⟨h1, RI.of h2 h3, h4, cut_bk h4 h3 h.lt⟩
theorem take_i (g : Nat) (W : World) (b : List Int) (at_ : Int) (bad : Bool) (n : Int) (h : RI W g b at_ bad) (hb : okB b = true) :
  Calls Tryd.prog 108 #[.pointer (some ⟨g, 0, none⟩), .int .i64 n] W fun e w' => ∃ v0_ : Value, e = .returned v0_ ∧ Kd.R (Kd.int .u8) 5 w' W.heap.size (fun _ => True) v0_ (takeR b at_ bad n).1 ∧ RI w' g b (takeR b at_ bad n).2.1 (takeR b at_ bad n).2.2 ∧ KeepBut W w' g none ∧ Below g W w' :=
 (take_calls g (cut W g) W b at_ bad n h.cut.1 h.cut.2 hb).mono fun e w' ⟨v, h1, h0, h2, h3, h4⟩ => ⟨v, h1, h0, RI.of h2 h3, h4, cut_bk h4 h3 h.lt⟩
/-- The document's reader, of any world. -/
def RJ (W : World) (g : Nat) (b : List Int) (at_ : Int) (bad : Bool) : Prop := ∃ a c, W.heap[g]? = some (.cells #[.slice a (b.drop at_.toNat).length c, .int .i64 at_, .bool bad] 71 (0, 0)) ∧ Kd.C (Kd.int .u8) W a (b.drop at_.toNat).length (b.drop at_.toNat) ∧ (b.drop at_.toNat).length ≤ c ∧ 0 ≤ at_ ∧ at_ ≤ b.length ∧ (∀ ad, a = some ad → 0 < (b.drop at_.toNat).length → ad.block < g)
theorem RJ.of {w0 W : World} {g : Nat} {b : List Int} {at_ : Int} {bad : Bool} (h : IsS71 w0 W g b at_ bad) (hB : Below w0.heap.size w0 W) : RJ W g b at_ bad := by
 obtain ⟨cs, hb, hg, a, c, rfl, hC, hle, h0, h1⟩ := h
 exact ⟨a, c, hb, zD hC hB, hle, h0, h1, fun ad e hn => by subst e; exact Nat.lt_of_lt_of_le (C_lt hC hn) hg⟩
theorem RJ.lt {W : World} {g : Nat} {b : List Int} {at_ : Int} {bad : Bool} (h : RJ W g b at_ bad) : g ≤ W.heap.size := by
 obtain ⟨_, _, hb, _⟩ := h
 exact Nat.le_of_lt (blk_lt hb)
theorem RJ.cut {W : World} {g : Nat} {b : List Int} {at_ : Int} {bad : Bool} (h : RJ W g b at_ bad) : IsS71 (cut W g) W g b at_ bad ∧ Below (Given.cut W g).heap.size (Given.cut W g) W := by
 have hg := h.lt
 obtain ⟨a, c, hb, hC, hle, h0, h1, hl⟩ := h
 exact ⟨⟨_, hb, by rw [cut_size hg]; exact z5 _, a, c, rfl, C_same hC (fun hn ad e => cut_get (hl ad e hn) hg), hle, h0, h1⟩, cut_below hg⟩
theorem rnum_j (g : Nat) (W : World) (b : List Int) (at_ : Int) (bad : Bool) (many : Int) (h : RJ W g b at_ bad) (hb : okB b = true) :
  Calls Tryd.prog 41 #[.pointer (some ⟨g, 0, none⟩), .int .i64 many] W fun e w' => e = .returned (.int .i64 (numR b at_ bad many).1) ∧ RJ w' g b (numR b at_ bad many).2.1 (numR b at_ bad many).2.2 ∧ KeepBut W w' g none ∧ Below g W w' :=
 (rnum_calls g (cut W g) W b at_ bad many h.cut.1 h.cut.2 hb).mono fun e w' ⟨h1, h2, h3, h4⟩ => ⟨h1, RJ.of h2 h3, h4, cut_bk h4 h3 h.lt⟩
theorem text_i (g : Nat) (W : World) (b : List Int) (at_ : Int) (bad : Bool) (h : RI W g b at_ bad) (hb : okB b = true) :
  Calls Tryd.prog 93 #[.pointer (some ⟨g, 0, none⟩)] W fun e w' => e = .returned (.string (textR b at_ bad).1) ∧ RI w' g b (textR b at_ bad).2.1 (textR b at_ bad).2.2 ∧ KeepBut W w' g none ∧ Below g W w' :=
 (text_calls g (cut W g) W b at_ bad h.cut.1 h.cut.2 hb).mono fun e w' ⟨h1, h2, h3, h4⟩ => ⟨h1, RI.of h2 h3, h4, cut_bk h4 h3 h.lt⟩
theorem rtext_j (g : Nat) (W : World) (b : List Int) (at_ : Int) (bad : Bool) (h : RJ W g b at_ bad) (hb : okB b = true) :
  Calls Tryd.prog 103 #[.pointer (some ⟨g, 0, none⟩)] W fun e w' => e = .returned (.string (textR b at_ bad).1) ∧ RJ w' g b (textR b at_ bad).2.1 (textR b at_ bad).2.2 ∧ KeepBut W w' g none ∧ Below g W w' :=
 (rtext_calls g (cut W g) W b at_ bad h.cut.1 h.cut.2 hb).mono fun e w' ⟨h1, h2, h3, h4⟩ => ⟨h1, RJ.of h2 h3, h4, cut_bk h4 h3 h.lt⟩
theorem rtake_j (g : Nat) (W : World) (b : List Int) (at_ : Int) (bad : Bool) (n : Int) (h : RJ W g b at_ bad) (hb : okB b = true) :
  Calls Tryd.prog 77 #[.pointer (some ⟨g, 0, none⟩), .int .i64 n] W fun e w' => ∃ A c, e = .returned (.slice A (takeR b at_ bad n).1.length c) ∧ Kd.C (Kd.int .u8) w' A (takeR b at_ bad n).1.length (takeR b at_ bad n).1 ∧ (takeR b at_ bad n).1.length ≤ c ∧ RJ w' g b (takeR b at_ bad n).2.1 (takeR b at_ bad n).2.2 ∧ KeepBut W w' g none ∧ Below g W w' :=
 (rtake_calls g (cut W g) W b at_ bad n h.cut.1 h.cut.2 hb).mono fun e w' ⟨A, c, h1, h0, hl, h2, h3, h4⟩ => ⟨A, c, h1, zD h0 h3, hl, RJ.of h2 h3, h4, cut_bk h4 h3 h.lt⟩
end Go.Proofs.YtdbfgfgbjheibaaDoor.Given
end

section
/- Tables' rows as the two readers read them: what is read, what stays. -/
namespace Go.Proofs.YtdbfgfgbjheibaaDoor.Given
open Go Go.RowKit Go.Proofs.YtdbfgfgbjheibaaDoorW.PrintWords Go.Proofs.YtdbfgfgbjheibaaDoorW.PrintLast Go.Proofs.YtdbfgfgbjheibaaDoorW.PrintMore
set_option linter.unusedVariables false
set_option linter.unusedSimpArgs false
abbrev SC := PBx.S68
abbrev SV := PBx.S41
abbrev SB := PBx.S43
theorem RI.le {W W1 : World} {g : Nat} {b : List Int} {at_ : Int} {bad : Bool} (h : RI W g b at_ bad) (hk : ∀ k, k ≤ g → W1.heap[k]? = W.heap[k]?) : RI W1 g b at_ bad := by
 obtain ⟨a, c, h1, hC, hle, h0, h2, hl⟩ := h
 exact ⟨a, c, (hk g (z5 _)).trans h1, C_same hC (fun hn ad e => by injection e with e; subst e; exact hk _ (Nat.le_of_lt (hl hn))), hle, h0, h2, hl⟩
theorem RJ.le {W W1 : World} {g : Nat} {b : List Int} {at_ : Int} {bad : Bool} (h : RJ W g b at_ bad) (hk : ∀ k, k ≤ g → W1.heap[k]? = W.heap[k]?) : RJ W1 g b at_ bad := by
 obtain ⟨a, c, h1, hC, hle, h0, h2, hl⟩ := h
 exact ⟨a, c, (hk g (z5 _)).trans h1, C_same hC (fun hn ad e => hk _ (Nat.le_of_lt (hl ad e hn))), hle, h0, h2, hl⟩
theorem RI.ltS {W : World} {g : Nat} {b : List Int} {at_ : Int} {bad : Bool} (h : RI W g b at_ bad) : g < W.heap.size := by
 obtain ⟨_, _, hb, _⟩ := h
 exact blk_lt hb
theorem RJ.ltS {W : World} {g : Nat} {b : List Int} {at_ : Int} {bad : Bool} (h : RJ W g b at_ bad) : g < W.heap.size := by
 obtain ⟨_, _, hb, _⟩ := h
 exact blk_lt hb
theorem RI.below {W W' : World} {g : Nat} {b : List Int} {at_ : Int} {bad : Bool} (h : RI W g b at_ bad) (hb : Below W.heap.size W W') : RI W' g b at_ bad := h.le (fun k hk => hb.block k (Nat.lt_of_le_of_lt hk h.ltS))
theorem RJ.below {W W' : World} {g : Nat} {b : List Int} {at_ : Int} {bad : Bool} (h : RJ W g b at_ bad) (hb : Below W.heap.size W W') : RJ W' g b at_ bad := h.le (fun k hk => hb.block k (Nat.lt_of_le_of_lt hk h.ltS))
theorem RI.grown {W W1 : World} {g : Nat} {b : List Int} {at_ : Int} {bad : Bool} {row : Option Nat} (h : RI W g b at_ bad) (hw : W.grownBy W1 row) (hr : ∀ k, row = some k → g < k) : RI W1 g b at_ bad :=
 h.le (fun k hk => hw.block k (Nat.lt_of_le_of_lt hk h.ltS) (fun e => by have := hr k e.symm; omega))
theorem RJ.grown {W W1 : World} {g : Nat} {b : List Int} {at_ : Int} {bad : Bool} {row : Option Nat} (h : RJ W g b at_ bad) (hw : W.grownBy W1 row) (hr : ∀ k, row = some k → g < k) : RJ W1 g b at_ bad :=
 h.le (fun k hk => hw.block k (Nat.lt_of_le_of_lt hk h.ltS) (fun e => by have := hr k e.symm; omega))
theorem R_keep {α : Type} {d : Kd α} {e base : Nat} {W W' : World} {g : Nat} {v : Value} {xs : List α} (h : d.R e W base (fun k => g < k) v xs) (hk : KeepBut W W' g none) : d.R e W' base (fun k => g < k) v xs :=
 Kd.R_step h (fun k ho hlt => hk.2 k hlt (by omega) (by simp))
theorem bad_i (g : Nat) (W : World) (b : List Int) (at_ : Int) (bad : Bool) (h : RI W g b at_ bad) : Calls Tryd.prog 96 #[.pointer (some ⟨g, 0, none⟩)] W fun e w' => e = .returned (.bool bad) ∧ Drawn0 W w' := bad_calls g _ W b at_ bad h.cut.1
theorem left_i (g : Nat) (W : World) (b : List Int) (at_ : Int) (h : RI W g b at_ false) : Calls Tryd.prog 66 #[.pointer (some ⟨g, 0, none⟩)] W fun e w' => e = .returned (.int .i64 (b.length - at_)) ∧ Drawn0 W w' := by
 have := left_calls g _ W b at_ false h.cut.1
 simpa using this
/-! ### What is read -/
def rowsR {α : Type} (row : Int → Bool → α × Int × Bool) : Nat → Int → Bool → List α → List α × Int × Bool
 | 0, at_, bad, out => (out, at_, bad)
 | n + 1, at_, bad, out => rowsR row n (row at_ bad).2.1 (row at_ bad).2.2 (out ++ [(row at_ bad).1])
def headR (most : Int) (b : List Int) : Int × Int := if (numR b 0 false 2).2.2 = true then (0, 1) else if (numR b 0 false 2).1 > most then (0, 5) else ((numR b 0 false 2).1, 0)
def endR (b : List Int) (at_ : Int) (bad : Bool) : Int := if bad = true then 1 else if (b.length : Int) - at_ > 0 then 4 else 0
def getR {α : Type} (row : List Int → Int → Bool → α × Int × Bool) (most : Int) (b : List Int) : List α × Int :=
 if (headR most b).2 = 0 then
  (if endR b (rowsR (row b) (headR most b).1.toNat (numR b 0 false 2).2.1 (numR b 0 false 2).2.2 []).2.1 (rowsR (row b) (headR most b).1.toNat (numR b 0 false 2).2.1 (numR b 0 false 2).2.2 []).2.2 = 0
  then ((rowsR (row b) (headR most b).1.toNat (numR b 0 false 2).2.1 (numR b 0 false 2).2.2 []).1, 0)
  else ([], endR b (rowsR (row b) (headR most b).1.toNat (numR b 0 false 2).2.1 (numR b 0 false 2).2.2 []).2.1 (rowsR (row b) (headR most b).1.toNat (numR b 0 false 2).2.1 (numR b 0 false 2).2.2 []).2.2))
 else ([], (headR most b).2)
theorem num2_range (b : List Int) (hb : okB b = true) : 0 ≤ (numR b 0 false 2).1 ∧ (numR b 0 false 2).1 < 65536 := by
 unfold numR
 split
 ·have hm : mx 0 (mn 2 8) = 2 := by decide
  rw [hm]
  have hlen : (cutR b 0 2).length ≤ 2 := by unfold cutR; rw [zt]; exact Nat.le_trans (Nat.min_le_left _ _) (by decide)
  have h := leN_lim (cutR b 0 2) (fun x hx => (okB_all hb).1 x (List.mem_of_mem_drop (List.mem_of_mem_take hx)))
  have h2 : (2 : Int) ^ (8 * (cutR b 0 2).length) ≤ 65536 := by
   have h3 : (cutR b 0 2).length = 0 ∨ (cutR b 0 2).length = 1 ∨ (cutR b 0 2).length = 2 := by omega
   rcases h3 with h3 | h3 | h3 <;> rw [h3] <;> decide
  have e : wrap64 (leN (cutR b 0 2)) = leN (cutR b 0 2) := by unfold wrap64; omega
  dsimp only
  rw [e]
  omega
 ·exact ⟨Int.le_refl _, by decide⟩
def conR (b : List Int) (at_ : Int) (bad : Bool) : SC × Int × Bool :=
 let t := numR b at_ bad 1
 let u := numR b t.2.1 t.2.2 8
 (⟨t.1, u.1⟩, u.2.1, u.2.2)
def blkR (b : List Int) (at_ : Int) (bad : Bool) : SB × Int × Bool :=
 let t := textR b at_ bad
 let u := numR b t.2.1 t.2.2 1
 (⟨t.1, u.1⟩, u.2.1, u.2.2)
def varR (b : List Int) (at_ : Int) (bad : Bool) : SV × Int × Bool :=
 let t := textR b at_ bad
 let u1 := numR b t.2.1 t.2.2 1
 let u2 := numR b u1.2.1 u1.2.2 1
 let u3 := numR b u2.2.1 u2.2.2 1
 let u4 := numR b u3.2.1 u3.2.2 8
 (⟨t.1, u1.1, u2.1, u3.1, u4.1⟩, u4.2.1, u4.2.2)
/-! ### The program's rows -/
theorem row_end {W W0 W2 : World} {g : Nat} (hg : g < W.heap.size) (hb0 : Below W.heap.size W W0) (hk : KeepBut W0 W2 g none) (hb : Below g W0 W2) (cs : Array Value) : KeepBut W (W2.setRow W.heap.size cs) g none ∧ Below g W (W2.setRow W.heap.size cs) :=
 ⟨⟨by rw [size_setRow]; exact Nat.le_trans hb0.size hk.1, fun i hi hne _ => (setRow_other _ _ _ _ (by omega)).trans ((hk.2 i (Nat.lt_of_lt_of_le hi hb0.size) hne (by simp)).trans (hb0.block i hi))⟩,
 ((hb0.mono (Nat.le_of_lt hg)).trans hb).trans (below_setRow (zX g W2) (Nat.le_of_lt hg) cs)⟩
theorem RI.below_row {W W2 : World} {g : Nat} {b : List Int} {at_ : Int} {bad : Bool} (h : RI W2 g b at_ bad) (hg : g < W.heap.size) (_ : W.heap.size ≤ W2.heap.size) (cs : Array Value) : RI (W2.setRow W.heap.size cs) g b at_ bad :=
 h.le (fun k hk => setRow_other _ _ _ _ (by omega))
set_option maxHeartbeats 2000000 in
theorem con_row (g : Nat) (W : World) (b : List Int) (at_ : Int) (bad : Bool) (h : RI W g b at_ bad) (hb : okB b = true) :
  Calls Tryd.prog 89 #[.pointer (some ⟨g, 0, none⟩)] W fun e w' => e = .returned (.agg #[.int .i64 (conR b at_ bad).1.f0, .int .i64 (conR b at_ bad).1.f1]) ∧ RI w' g b (conR b at_ bad).2.1 (conR b at_ bad).2.2 ∧ KeepBut W w' g none ∧ Below g W w' := by
 unfold conR
 dsimp only
 have hg := h.ltS
 obtain ⟨W0, hW0⟩ : ∃ X, X = W.alloc (.cells #[.int .i64 0, .int .i64 0] 68) := ⟨_, rfl⟩
 have hb0 : Below W.heap.size W W0 := hW0 ▸ (zX _ _).alloc (z5 _) _
 have hx : W0.heap[W.heap.size]? = some (.cells #[.int .i64 0, .int .i64 0] 68 (0, 0)) := by rw [hW0]; exact heap_alloc_new W _
 have h0 := h.below hb0
 have hne : W.heap.size ≠ g := by omega
 generalize hU0 : numR b at_ bad 1 = u0_
 generalize hU1 : numR b u0_.2.1 u0_.2.2 8 = u1_
 have HU0 := zA hU0
 have HU1 := zA hU1
 have HB := zA hb
 clear hb hU0 hU1
 have hi : (Tryd.prog.info? 68).map (·.size) = some 2 := by kernel_rfl
 go_enter Tryd.func89, Tryd.ntmps89
 go_wp2_with fail
 rw [← hW0]
 refine (num_i g W0 b at_ bad 1 h0 HB.out).mono ?_
 rw [HU0.out]
 rintro e W1 ⟨rfl, h1, hk1, hb1⟩
 go_wp2_with fail
 refine (num_i g W1 b u0_.2.1 u0_.2.2 8 h1 HB.out).mono ?_
 rw [HU1.out]
 rintro e W2 ⟨rfl, h2, hk2, hb2⟩
 have hx2 := (hk2.blk (hk1.blk hx hne (by simp)) hne (by simp))
 have hz := row_end hg hb0 (hk1.trans hk2 (.inl rfl)) (hb1.trans hb2) #[.int .i64 u0_.1, .int .i64 u1_.1]
 have h9 := h2.below_row hg (by have := hb0.size; have := (hb1.trans hb2).size; omega) #[.int .i64 u0_.1, .int .i64 u1_.1]
 clear hk1 hb1 hk2 hb2
 go_wp2_with ((with_reducible refine gate_store (t := 68) (p := 2) (v := .tmp 7) rfl ?_); refine wpList_store_row rfl 68 (.tmp 2) (.tmp 7) rfl W.heap.size #[.int .i64 u0_.1, .int .i64 u1_.1] rfl rfl 68 _ hx2 (by rw [hi]; rfl) rfl (by kernel_rfl) ?_)
 refine bodyPost_ret (results_single rfl (.cell W.heap.size 68 #[.int .i64 u0_.1, .int .i64 u1_.1] (0, 0) _ rfl (setRow_heap _ _ _ _ _ _ hx2) Tryd.underlying68 rfl hi .nil)) rfl ?_
 exact ⟨rfl, h9, hz.1, hz.2⟩
set_option maxHeartbeats 2000000 in
theorem blk_row (g : Nat) (W : World) (b : List Int) (at_ : Int) (bad : Bool) (h : RI W g b at_ bad) (hb : okB b = true) :
  Calls Tryd.prog 95 #[.pointer (some ⟨g, 0, none⟩)] W fun e w' => e = .returned (.agg #[.string (blkR b at_ bad).1.f0, .int .i64 (blkR b at_ bad).1.f1]) ∧ RI w' g b (blkR b at_ bad).2.1 (blkR b at_ bad).2.2 ∧ KeepBut W w' g none ∧ Below g W w' := by
 unfold blkR
 dsimp only
 have hg := h.ltS
 obtain ⟨W0, hW0⟩ : ∃ X, X = W.alloc (.cells #[.string ⟨#[]⟩, .int .i64 0] 43) := ⟨_, rfl⟩
 have hb0 : Below W.heap.size W W0 := hW0 ▸ (zX _ _).alloc (z5 _) _
 have hx : W0.heap[W.heap.size]? = some (.cells #[.string ⟨#[]⟩, .int .i64 0] 43 (0, 0)) := by rw [hW0]; exact heap_alloc_new W _
 have h0 := h.below hb0
 have hne : W.heap.size ≠ g := by omega
 generalize hU0 : textR b at_ bad = u0_
 generalize hU1 : numR b u0_.2.1 u0_.2.2 1 = u1_
 have HU0 := zA hU0
 have HU1 := zA hU1
 have HB := zA hb
 clear hb hU0 hU1
 have hi : (Tryd.prog.info? 43).map (·.size) = some 2 := by kernel_rfl
 go_enter Tryd.func95, Tryd.ntmps95
 go_wp2_with fail
 rw [← hW0]
 refine (text_i g W0 b at_ bad h0 HB.out).mono ?_
 rw [HU0.out]
 rintro e W1 ⟨rfl, h1, hk1, hb1⟩
 go_wp2_with fail
 refine (num_i g W1 b u0_.2.1 u0_.2.2 1 h1 HB.out).mono ?_
 rw [HU1.out]
 rintro e W2 ⟨rfl, h2, hk2, hb2⟩
 have hx2 := (hk2.blk (hk1.blk hx hne (by simp)) hne (by simp))
 have hz := row_end hg hb0 (hk1.trans hk2 (.inl rfl)) (hb1.trans hb2) #[.string u0_.1, .int .i64 u1_.1]
 have h9 := h2.below_row hg (by have := hb0.size; have := (hb1.trans hb2).size; omega) #[.string u0_.1, .int .i64 u1_.1]
 clear hk1 hb1 hk2 hb2
 go_wp2_with ((with_reducible refine gate_store (t := 43) (p := 2) (v := .tmp 7) rfl ?_); refine wpList_store_row rfl 43 (.tmp 2) (.tmp 7) rfl W.heap.size #[.string u0_.1, .int .i64 u1_.1] rfl rfl 43 _ hx2 (by rw [hi]; rfl) rfl (by kernel_rfl) ?_)
 refine bodyPost_ret (results_single rfl (.cell W.heap.size 43 #[.string u0_.1, .int .i64 u1_.1] (0, 0) _ rfl (setRow_heap _ _ _ _ _ _ hx2) Tryd.underlying43 rfl hi .nil)) rfl ?_
 exact ⟨rfl, h9, hz.1, hz.2⟩
set_option maxHeartbeats 2000000 in
theorem var_row (g : Nat) (W : World) (b : List Int) (at_ : Int) (bad : Bool) (h : RI W g b at_ bad) (hb : okB b = true) :
  Calls Tryd.prog 92 #[.pointer (some ⟨g, 0, none⟩)] W fun e w' => e = .returned (.agg #[.string (varR b at_ bad).1.f0, .int .i64 (varR b at_ bad).1.f1, .int .i64 (varR b at_ bad).1.f2, .int .i64 (varR b at_ bad).1.f3, .int .i64 (varR b at_ bad).1.f4]) ∧ RI w' g b (varR b at_ bad).2.1 (varR b at_ bad).2.2 ∧ KeepBut W w' g none ∧ Below g W w' := by
 unfold varR
 dsimp only
 have hg := h.ltS
 obtain ⟨W0, hW0⟩ : ∃ X, X = W.alloc (.cells #[.string ⟨#[]⟩, .int .i64 0, .int .i64 0, .int .i64 0, .int .i64 0] 41) := ⟨_, rfl⟩
 have hb0 : Below W.heap.size W W0 := hW0 ▸ (zX _ _).alloc (z5 _) _
 have hx : W0.heap[W.heap.size]? = some (.cells #[.string ⟨#[]⟩, .int .i64 0, .int .i64 0, .int .i64 0, .int .i64 0] 41 (0, 0)) := by rw [hW0]; exact heap_alloc_new W _
 have h0 := h.below hb0
 have hne : W.heap.size ≠ g := by omega
 generalize hU0 : textR b at_ bad = u0_
 generalize hU1 : numR b u0_.2.1 u0_.2.2 1 = u1_
 generalize hU2 : numR b u1_.2.1 u1_.2.2 1 = u2_
 generalize hU3 : numR b u2_.2.1 u2_.2.2 1 = u3_
 generalize hU4 : numR b u3_.2.1 u3_.2.2 8 = u4_
 have HU0 := zA hU0
 have HU1 := zA hU1
 have HU2 := zA hU2
 have HU3 := zA hU3
 have HU4 := zA hU4
 have HB := zA hb
 clear hb hU0 hU1 hU2 hU3 hU4
 have hi : (Tryd.prog.info? 41).map (·.size) = some 5 := by kernel_rfl
 go_enter Tryd.func92, Tryd.ntmps92
 go_wp2_with fail
 rw [← hW0]
 refine (text_i g W0 b at_ bad h0 HB.out).mono ?_
 rw [HU0.out]
 rintro e W1 ⟨rfl, h1, hk1, hb1⟩
 go_wp2_with fail
 refine (num_i g W1 b u0_.2.1 u0_.2.2 1 h1 HB.out).mono ?_
 rw [HU1.out]
 rintro e W2 ⟨rfl, h2, hk2, hb2⟩
 go_wp2_with fail
 refine (num_i g W2 b u1_.2.1 u1_.2.2 1 h2 HB.out).mono ?_
 rw [HU2.out]
 rintro e W3 ⟨rfl, h3, hk3, hb3⟩
 go_wp2_with fail
 refine (num_i g W3 b u2_.2.1 u2_.2.2 1 h3 HB.out).mono ?_
 rw [HU3.out]
 rintro e W4 ⟨rfl, h4, hk4, hb4⟩
 go_wp2_with fail
 refine (num_i g W4 b u3_.2.1 u3_.2.2 8 h4 HB.out).mono ?_
 rw [HU4.out]
 rintro e W5 ⟨rfl, h5, hk5, hb5⟩
 have hx2 := (hk5.blk (hk4.blk (hk3.blk (hk2.blk (hk1.blk hx hne (by simp)) hne (by simp)) hne (by simp)) hne (by simp)) hne (by simp))
 have hz := row_end hg hb0 ((((hk1.trans hk2 (.inl rfl)).trans hk3 (.inl rfl)).trans hk4 (.inl rfl)).trans hk5 (.inl rfl)) ((((hb1.trans hb2).trans hb3).trans hb4).trans hb5) #[.string u0_.1, .int .i64 u1_.1, .int .i64 u2_.1, .int .i64 u3_.1, .int .i64 u4_.1]
 have h9 := h5.below_row hg (by have := hb0.size; have := ((((hb1.trans hb2).trans hb3).trans hb4).trans hb5).size; omega) #[.string u0_.1, .int .i64 u1_.1, .int .i64 u2_.1, .int .i64 u3_.1, .int .i64 u4_.1]
 clear hk1 hb1 hk2 hb2 hk3 hb3 hk4 hb4 hk5 hb5
 go_wp2_with ((with_reducible refine gate_store (t := 41) (p := 2) (v := .tmp 13) rfl ?_); refine wpList_store_row rfl 41 (.tmp 2) (.tmp 13) rfl W.heap.size #[.string u0_.1, .int .i64 u1_.1, .int .i64 u2_.1, .int .i64 u3_.1, .int .i64 u4_.1] rfl rfl 41 _ hx2 (by rw [hi]; rfl) rfl (by kernel_rfl) ?_)
 refine bodyPost_ret (results_single rfl (.cell W.heap.size 41 #[.string u0_.1, .int .i64 u1_.1, .int .i64 u2_.1, .int .i64 u3_.1, .int .i64 u4_.1] (0, 0) _ rfl (setRow_heap _ _ _ _ _ _ hx2) Tryd.underlying41 rfl hi .nil)) rfl ?_
 exact ⟨rfl, h9, hz.1, hz.2⟩
end Go.Proofs.YtdbfgfgbjheibaaDoor.Given
end

section
/- The reader's contracts as printed texts call them; any reader of bytes that is not past its end. -/
namespace Go.Proofs.YtdbfgfgbjheibaaDoor.Given
set_option linter.unusedVariables false
open Go.RowKit Go.Proofs.YtdbfgfgbjheibaaDoorW.PrintWords Go.Proofs.YtdbfgfgbjheibaaDoorW.PrintLast Go.Proofs.YtdbfgfgbjheibaaDoorW.PrintMore
def octet_Reader_Num.f (s0_0 : List Int) (s0_1 : Int) (s0_2 : Bool) (a1 : Int) : Option (Int × Int × Bool) := if okB s0_0 = true then some (numR s0_0 s0_1 s0_2 a1) else none
theorem octet_Reader_Num.calls (g : Nat) (s0_0 : List Int) (s0_1 : Int) (s0_2 : Bool) (a1 : Int) (r1 : Int) (r2 : Int) (r3 : Bool) (w0 w : World) (hI : IsS119 w0 w g s0_0 s0_1 s0_2) (hB : Below w0.heap.size w0 w) (h : octet_Reader_Num.f s0_0 s0_1 s0_2 a1 = some (r1, r2, r3)) :
  Calls Tryd.prog 60 #[.pointer (some ⟨g, 0, none⟩), .int .i64 a1] w fun e w' => e = .returned (.int .i64 r1) ∧ IsS119 w0 w' g s0_0 r2 r3 ∧ Below w0.heap.size w0 w' ∧ KeepBut w w' g none := by
 unfold octet_Reader_Num.f at h
 split at h
 ·rename_i hb
  have h := zJ h
  have := num_calls g w0 w s0_0 s0_1 s0_2 a1 hI hB hb
  rw [h] at this
  exact this
 ·cases h
def octet_Reader_Take.f (s0_0 : List Int) (s0_1 : Int) (s0_2 : Bool) (a1 : Int) : Option (List Int × Int × Bool) := if okB s0_0 = true then some (takeR s0_0 s0_1 s0_2 a1) else none
theorem octet_Reader_Take.calls (g : Nat) (s0_0 : List Int) (s0_1 : Int) (s0_2 : Bool) (a1 : Int) (r1 : List Int) (r2 : Int) (r3 : Bool) (w0 w : World) (hI : IsS119 w0 w g s0_0 s0_1 s0_2) (hB : Below w0.heap.size w0 w) (h : octet_Reader_Take.f s0_0 s0_1 s0_2 a1 = some (r1, r2, r3)) :
  Calls Tryd.prog 108 #[.pointer (some ⟨g, 0, none⟩), .int .i64 a1] w fun e w' => ∃ v0_ : Value, e = .returned (v0_) ∧ Kd.R (Kd.int .u8) 5 w' w.heap.size (fun _ => True) v0_ r1 ∧ IsS119 w0 w' g s0_0 r2 r3 ∧ Below w0.heap.size w0 w' ∧ KeepBut w w' g none := by
 unfold octet_Reader_Take.f at h
 split at h
 ·rename_i hb
  have h := zJ h
  have := take_calls g w0 w s0_0 s0_1 s0_2 a1 hI hB hb
  rw [h] at this
  exact this
 ·cases h
def octet_Reader_Bad.f (s0_0 : List Int) (s0_1 : Int) (s0_2 : Bool) : Option (Bool × Int × Bool) := some (s0_2, s0_1, s0_2)
theorem octet_Reader_Bad.calls (g : Nat) (s0_0 : List Int) (s0_1 : Int) (s0_2 : Bool) (r1 : Bool) (r2 : Int) (r3 : Bool) (w0 w : World) (hI : IsS119 w0 w g s0_0 s0_1 s0_2) (hB : Below w0.heap.size w0 w) (h : octet_Reader_Bad.f s0_0 s0_1 s0_2 = some (r1, r2, r3)) :
  Calls Tryd.prog 96 #[.pointer (some ⟨g, 0, none⟩)] w fun e w' => e = .returned (.bool r1) ∧ IsS119 w0 w' g s0_0 r2 r3 ∧ Below w0.heap.size w0 w' ∧ KeepBut w w' g none := by
 have h := zJ h
 rw [Prod.mk.injEq, Prod.mk.injEq] at h
 obtain ⟨rfl, rfl, rfl⟩ := h
 refine (bad_calls g w0 w s0_0 s0_1 s0_2 hI).mono ?_
 rintro e w' ⟨he, m, rfl⟩
 exact ⟨he, hI.drewN m, zN hB m, keep_drewN (KeepBut.refl w g none) m⟩
end Go.Proofs.YtdbfgfgbjheibaaDoor.Given
end

section
/- Printed by a program of this session (wip/pg.py, over the print of the kit): functions, their Lean twins, and the proofs that the calls come to them; each under the conditions that it names. -/
namespace Go.Proofs.YtdbfgfgbjheibaaDoor.PNum
open Go.Proofs.YtdbfgfgbjheibaaDoor.Given
open Go.RowKit Go.Proofs.YtdbfgfgbjheibaaDoorW.PrintWords Go.Proofs.YtdbfgfgbjheibaaDoorW.PrintLast Go.Proofs.YtdbfgfgbjheibaaDoorW.PrintMore
attribute [local go_sem] max2_int min2_int max_two min_two max_three min_three max_four min_four   -- for this text's walks alone
set_option linter.unusedVariables false
set_option linter.unusedSimpArgs false



def errW : Option Int → Value
 | none => .nilIface
 | some c => .iface 0 (.int .i64 c)
theorem errW_none : errW none = .nilIface := rfl
theorem errW_some (c : Int) : errW (some c) = .iface 0 (.int .i64 c) := rfl

theorem info3 : (Tryd.prog.info? 3).map (fun i => (i.zero, i.size, i.bytes)) = some (some (.int .i64 0), 1, 8) := by kernel_rfl
-- the values' own types

end Go.Proofs.YtdbfgfgbjheibaaDoor.PNum
end

section
/- Printed by a program of this session (wip/pg.py, over the print of the kit): functions, their Lean twins, and the proofs that the calls come to them; each under the conditions that it names. -/
namespace Go.Proofs.YtdbfgfgbjheibaaDoor.PNum
open Go.Proofs.YtdbfgfgbjheibaaDoor.Given
open Go.RowKit Go.Proofs.YtdbfgfgbjheibaaDoorW.PrintWords Go.Proofs.YtdbfgfgbjheibaaDoorW.PrintLast Go.Proofs.YtdbfgfgbjheibaaDoorW.PrintMore
attribute [local go_sem] max2_int min2_int max_two min_two max_three min_three max_four min_four   -- for this text's walks alone
set_option linter.unusedVariables false
set_option linter.unusedSimpArgs false

-- NOT PRINTED: function 87 (octet_Reader_next)


/-! ### unit_numbers: function 109 -/
def unit_numbers.l0 : Nat → List Int → List Int → Int → Int → List Int → Int → Bool → Option (List Int × Int × Int × Bool)
 | 0, _, _, _, _, _, _, _ => none
 | k + 1, x9, x20, x21, x22, x1000, x1001, x1002 => if x22 < x21 then (if 0 ≤ x22 then (if x22 < (x20.length : Int) then (if x9.length < 17592186044416 then (unit_numbers.l0 k (x9 ++ [wrap64 (rd x20 x22)]) x20 x21 (wrap64 (x22 + 1)) x1000 x1001 x1002) else (none)) else (none)) else (none)) else ((octet_Reader_Bad.f x1000 x1001 x1002).bind fun bt113 => (if bt113.1 = true then (some (([] : List Int), 1, bt113.2.1, bt113.2.2)) else (some (x9, 0, bt113.2.1, bt113.2.2))))
def unit_numbers.f (k : Nat) (s0_0 : List Int) (s0_1 : Int) (s0_2 : Bool) (a1 : Int) (a2 : Int) : Option (List Int × Int × Int × Bool) := (octet_Reader_Num.f s0_0 s0_1 s0_2 a1).bind fun bt101 => (if bt101.1 > a2 then (some (([] : List Int), 5, bt101.2.1, bt101.2.2)) else ((octet_Reader_Take.f s0_0 bt101.2.1 bt101.2.2 bt101.1).bind fun bt104 => (unit_numbers.l0 k ([] : List Int) bt104.1 (bt104.1.length : Int) 0 s0_0 bt104.2.1 bt104.2.2)))
set_option maxHeartbeats 8000000 in
set_option maxRecDepth 100000 in
theorem unit_numbers.calls (k : Nat) (g : Nat) (s0_0 : List Int) (s0_1 : Int) (s0_2 : Bool) (a1 : Int) (a2 : Int) (r1 : List Int) (r2 : Int) (r3 : Int) (r4 : Bool) (w0 w : World) (hI : IsS119 w0 w g s0_0 s0_1 s0_2) (hB : Below w0.heap.size w0 w) (h : unit_numbers.f k s0_0 s0_1 s0_2 a1 a2 = some (r1, r2, r3, r4)) :
  Calls Tryd.prog 109 #[.pointer (some ⟨g, 0, none⟩), .int .i64 a1, .int .i64 a2] w fun e w' => ∃ v0_ : Value, e = .returned (.tuple #[v0_, .int .i64 r2]) ∧ Kd.R (Kd.int .i64) 3 w' w.heap.size (fun _ => True) v0_ r1 ∧ IsS119 w0 w' g s0_0 r3 r4 ∧ Below w0.heap.size w0 w' ∧ KeepBut w w' g none := by
 have HI0 := zA hI
 have HK := zA (KeepBut.refl w g none)
 have HL := zA hB.size
 clear hI
 have HW0 := zA hB.size
 have HB := zA hB
 clear hB
 have H : ((octet_Reader_Num.f s0_0 s0_1 s0_2 a1).bind fun bt101 => (if bt101.1 > a2 then (some (([] : List Int), 5, bt101.2.1, bt101.2.2)) else ((octet_Reader_Take.f s0_0 bt101.2.1 bt101.2.2 bt101.1).bind fun bt104 => (unit_numbers.l0 k ([] : List Int) bt104.1 (bt104.1.length : Int) 0 s0_0 bt104.2.1 bt104.2.2)))) = some (r1, r2, r3, r4) := h
 clear h
 replace H := Option.bind_eq_some_iff.mp H
 obtain ⟨⟨t101, t102, t103⟩, A40, H⟩ := H
 replace H : (if t101 > a2 then (some (([] : List Int), 5, t102, t103)) else ((octet_Reader_Take.f s0_0 t102 t103 t101).bind fun bt104 => (unit_numbers.l0 k ([] : List Int) bt104.1 (bt104.1.length : Int) 0 s0_0 bt104.2.1 bt104.2.2))) = some (r1, r2, r3, r4) := H
 have A4 := zA A40
 clear A40
 by_cases c5 : t101 > a2
 ·rw [if_pos c5] at H
  have c5b0 : decide (a2 < t101) = true := decide_eq_true c5
  clear c5
  simp only [Option.some.injEq, Prod.mk.injEq] at H
  obtain ⟨rfl, rfl, rfl, rfl⟩ := H
  go_enter Tryd.func109, Tryd.ntmps109
  go_wp2_with (first | ((with_reducible refine gate_callee (f := 60) rfl ?_); refine goesL_ (some 14) rfl rfl Tryd.func60 (by kernel_rfl) rfl #[.pointer (some ⟨g, 0, none⟩), .int .i64 a1] rfl (by (try simp only [zm, zc, zn]); first | done | rfl | (simp only [zd, zt]; rfl)) ?_; (with_reducible refine (octet_Reader_Num.calls g s0_0 s0_1 s0_2 a1 t101 t102 t103 w0 _ ?side1 ?side2 A4.out).mono ?_); (case side1 => repeat (first | (with_reducible first | exact HI0.out | apply IsS119.alloc | apply IsS119.drewN | apply IsS119.drew | apply IsS119.set_1 | apply IsS119.set_2) | exact HI0.out)); (case side2 => repeat (first | (with_reducible first | exact HB.out | apply zB | apply zN | apply below_drew1 | refine zE ?_ (IsS119.ge HI0.out)) | exact HB.out)); rintro e w6 ⟨rfl, hi, hb, hk⟩; refine ⟨_, rfl, ?_⟩; replace HK := zA (KeepBut.trans (by repeat (first | (with_reducible first | exact HK.out | apply KeepBut.set_ | apply keep_drewN | apply keep_drew | apply keep_alloc) | exact HK.out)) hk (.inl rfl)); replace HB := zA (hb); replace HI0 := zA (hi); (try clear hb); (try clear hb2); (try clear hk); (try clear hi)))
  go_ret2
  exact ⟨_, by first | rfl | (simp [errW_none, errW_some] <;> rfl) | (simp [*, errW_none, errW_some] <;> rfl), by first | exact Kd.R_nil _ _ _ _ _ | exact Kd.N_nil _ _ _ _ _ | exact Kd.V_nil _ _ _ _ _ | exact Kd.Q_nil _ _ _ _ _ | exact Kd.S_nil _ _ _ _ _, by repeat (first | (with_reducible first | exact HI0.out | apply IsS119.alloc | apply IsS119.drewN | apply IsS119.drew | apply IsS119.set_1 | apply IsS119.set_2) | exact HI0.out), by repeat (first | (with_reducible first | exact HB.out | apply zB | apply zN | apply below_drew1 | refine zE ?_ (IsS119.ge HI0.out)) | exact HB.out), by repeat (first | (with_reducible first | exact HK.out | apply KeepBut.set_ | apply keep_drewN | apply keep_drew | apply keep_alloc) | exact HK.out)⟩
 ·rw [if_neg c5] at H
  have c5b0 : decide (a2 < t101) = false := decide_eq_false c5
  clear c5
  replace H := Option.bind_eq_some_iff.mp H
  obtain ⟨⟨t104, t107, t108⟩, A70, H⟩ := H
  replace H : (unit_numbers.l0 k ([] : List Int) t104 (t104.length : Int) 0 s0_0 t107 t108) = some (r1, r2, r3, r4) := H
  have A7 := zA A70
  clear A70
  have H' := zA H
  clear H
  go_enter Tryd.func109, Tryd.ntmps109
  go_wp2_with (first | ((with_reducible refine gate_callee (f := 60) rfl ?_); refine goesL_ (some 14) rfl rfl Tryd.func60 (by kernel_rfl) rfl #[.pointer (some ⟨g, 0, none⟩), .int .i64 a1] rfl (by (try simp only [zm, zc, zn]); first | done | rfl | (simp only [zd, zt]; rfl)) ?_; (with_reducible refine (octet_Reader_Num.calls g s0_0 s0_1 s0_2 a1 t101 t102 t103 w0 _ ?side1 ?side2 A4.out).mono ?_); (case side1 => repeat (first | (with_reducible first | exact HI0.out | apply IsS119.alloc | apply IsS119.drewN | apply IsS119.drew | apply IsS119.set_1 | apply IsS119.set_2) | exact HI0.out)); (case side2 => repeat (first | (with_reducible first | exact HB.out | apply zB | apply zN | apply below_drew1 | refine zE ?_ (IsS119.ge HI0.out)) | exact HB.out)); rintro e w8 ⟨rfl, hi, hb, hk⟩; refine ⟨_, rfl, ?_⟩; replace HK := zA (KeepBut.trans (by repeat (first | (with_reducible first | exact HK.out | apply KeepBut.set_ | apply keep_drewN | apply keep_drew | apply keep_alloc) | exact HK.out)) hk (.inl rfl)); replace HB := zA (hb); replace HI0 := zA (hi); (try clear hb); (try clear hb2); (try clear hk); (try clear hi)) | ((with_reducible refine gate_callee (f := 108) rfl ?_); refine goesL_ (some 20) rfl rfl Tryd.func108 (by kernel_rfl) rfl #[.pointer (some ⟨g, 0, none⟩), .int .i64 t101] rfl (by (try simp only [zm, zc, zn]); first | done | rfl | (simp only [zd, zt]; rfl)) ?_; (with_reducible refine (octet_Reader_Take.calls g s0_0 t102 t103 t101 t104 t107 t108 w0 _ ?side1 ?side2 A7.out).mono ?_); (case side1 => repeat (first | (with_reducible first | exact HI0.out | apply IsS119.alloc | apply IsS119.drewN | apply IsS119.drew | apply IsS119.set_1 | apply IsS119.set_2) | exact HI0.out)); (case side2 => repeat (first | (with_reducible first | exact HB.out | apply zB | apply zN | apply below_drew1 | refine zE ?_ (IsS119.ge HI0.out)) | exact HB.out)); rintro e w9 ⟨v105, rfl, ho0, hi, hb, hk⟩; refine ⟨_, rfl, ?_⟩; have HO106 := zA (Kd.R_lower ho0 (keep_size (w := w) (g := g) (row := none) (by repeat (first | (with_reducible first | exact HK.out | apply KeepBut.set_ | apply keep_drewN | apply keep_drew | apply keep_alloc) | exact HK.out)))); replace HK := zA (KeepBut.trans (by repeat (first | (with_reducible first | exact HK.out | apply KeepBut.set_ | apply keep_drewN | apply keep_drew | apply keep_alloc) | exact HK.out)) hk (.inl rfl)); replace HB := zA (hb); replace HI0 := zA (hi); (try clear hb); (try clear hb2); (try clear hk); (try clear hi); (try clear ho0); obtain ⟨Ao10, co10, eo10⟩ := Kd.R_slice HO106.out; subst eo10))
  go_loopg [9, 22] k (fun kq v9 v22 w' => ∃ (x9_1 : List Int) (x22_1 : Int), v22 = .int .i64 x22_1 ∧ Aside0 (unit_numbers.l0 kq x9_1 t104 (t104.length : Int) x22_1 s0_0 t107 t108 = some (r1, r2, r3, r4)) ∧ Aside0 (kq ≤ k) ∧ Aside0 (Kd.R (Kd.int .i64) 3 w' w.heap.size (fun _ => True) v9 x9_1) ∧ Aside0 (Kd.R (Kd.int .u8) 5 w' w.heap.size (fun _ => True) (.slice Ao10 t104.length co10) t104) ∧ Aside0 (IsS119 w0 w' g s0_0 t107 t108) ∧ Aside0 (KeepBut w w' g none) ∧ Aside0 (Below w0.heap.size w0 w'))
  case atStart => exact ⟨(([] : List Int)), (0), (by first | rfl | (simp; done) | (simp [*]; done)), H', ⟨z5 _⟩, ⟨by first | exact Kd.R_nil _ _ _ _ _ | exact Kd.N_nil _ _ _ _ _ | exact Kd.V_nil _ _ _ _ _ | exact Kd.Q_nil _ _ _ _ _ | exact Kd.S_nil _ _ _ _ _⟩, ⟨by (with_reducible repeat (first | apply zR | apply zS | apply zT)); exact HO106.out⟩, ⟨by repeat (first | (with_reducible first | exact HI0.out | apply IsS119.alloc | apply IsS119.drewN | apply IsS119.drew | apply IsS119.set_1 | apply IsS119.set_2) | exact HI0.out)⟩, ⟨by repeat (first | (with_reducible first | exact HK.out | apply KeepBut.set_ | apply keep_drewN | apply keep_drew | apply keep_alloc) | exact HK.out)⟩, ⟨by repeat (first | (with_reducible first | exact HB.out | apply zB | apply zN | apply below_drew1 | refine zE ?_ (IsS119.ge HI0.out)) | exact HB.out)⟩⟩
  case round =>
   clear H'
   try clear c1
   try clear p2
   try clear c5
   try clear c5b0
   try clear c6
   try clear c10
   obtain ⟨x9_1, x22_1, rfl, HA, HK1, HO_9, HO_20, HI0, HK, HB⟩ := hrel
   cases gk with
   | zero => exact absurd HA.out (by simp [unit_numbers.l0])
   | succ k1 =>
    have H := HA.out
    clear HA
    simp only [unit_numbers.l0] at H
    by_cases c11 : x22_1 < (t104.length : Int)
    ·rw [if_pos c11] at H
     have c11b0 : decide (x22_1 < (t104.length : Int)) = true := decide_eq_true c11
     clear c11
     by_cases c12 : 0 ≤ x22_1
     ·rw [if_pos c12] at H
      have c12b0 : decide (0 ≤ x22_1) = true := decide_eq_true c12
      clear c12
      by_cases c13 : x22_1 < (t104.length : Int)
      ·rw [if_pos c13] at H
       have c13b0 : decide (x22_1 < (t104.length : Int)) = true := decide_eq_true c13
       clear c13
       by_cases c14 : x9_1.length < 17592186044416
       ·rw [if_pos c14] at H
        have LMc14 := zA c14
        clear c14
        obtain ⟨y110, hy110⟩ : ∃ y_ : List Int, y_ = (x9_1 ++ [wrap64 (rd t104 x22_1)]) := ⟨_, rfl⟩
        replace H : (unit_numbers.l0 k1 y110 t104 (t104.length : Int) (wrap64 (x22_1 + 1)) s0_0 t107 t108) = some (r1, r2, r3, r4) := by first | (rw [hy110]; with_reducible exact H) | (have H2_ := (zP _ _).symm.trans H; rw [hy110]; with_reducible exact H2_) | (have H2_ := (zP _ _).symm.trans H; with_reducible exact H2_) | with_reducible exact H | (rw [hy110]; exact H) | exact H
        have Ny110 := zA hy110
        clear hy110
        have H' := zA H
        clear H
        have p109 : 0 ≤ (x22_1 : Int) := zO (by first | (with_reducible assumption) | assumption)
        have q109 : x22_1 < (t104.length : Int) := zO (by first | (with_reducible assumption) | assumption)
        obtain ⟨ad109, e109, hx109_0⟩ := Kd.at_int (Kd.R_reads' HO_20.out).2.2 x22_1 p109 q109
        cases e109
        replace p109 := eq_true p109
        replace q109 := eq_true q109
        go_wp2_with (first | ((with_reducible refine gate_builtin (b := .append) (xs := #[.tmp 26, .tmp 29]) rfl ?_); at_builtin; refine Kd.R_append (Kd.int .i64) w.heap.size rfl (.tmp 26) (.tmp 29) 45 3 (.int .i64 0) 8 rfl Tryd.underlying45 info3 rfl (by decide) (by omega) u9 x9_1 (wrap64 (rd t104 x22_1)) [.int .i64 (wrap64 (rd t104 x22_1))] (fun _ => True) (fun _ => False) rfl rfl ?aP (fun _ hk => hk.elim) ?aF ?aO (zX _ _) ?aS ?aL ?_; (case aP => exact rfl); (case aF => exact (fun _ _ => trivial)); (case aO => exact (by (with_reducible repeat (first | apply zR | apply zS | apply zT)); exact HO_9.out)); (case aS => exact (keep_size (w := w) (g := g) (row := none) (by repeat (first | (with_reducible first | exact HK.out | apply KeepBut.set_ | apply keep_drewN | apply keep_drew | apply keep_alloc) | exact HK.out)))); (case aL => have := LMc14.out; omega); intro v111 w15 ho hb hg hat; rw [← Ny110.out] at ho; replace HO_20 := zA (Kd.R_over' (by (with_reducible repeat (first | apply zR | apply zS | apply zT)); exact HO_20.out) (Kd.R_typed (by (with_reducible repeat (first | apply zR | apply zS | apply zT)); exact HO_9.out)) (by decide) hg); replace HB := zA (below_weaken (by repeat (first | (with_reducible first | exact HB.out | apply zB | apply zN | apply below_drew1 | refine zE ?_ (IsS119.ge HI0.out)) | exact HB.out)) HL.out hb); replace HI0 := zA (IsS119.grown (by repeat (first | (with_reducible first | exact HI0.out | apply IsS119.alloc | apply IsS119.drewN | apply IsS119.drew | apply IsS119.set_1 | apply IsS119.set_2) | exact HI0.out)) hg (IsS119.own_ne HI0.out HO_9.out (by decide))); replace HK := zA (KeepBut.trans (by repeat (first | (with_reducible first | exact HK.out | apply KeepBut.set_ | apply keep_drewN | apply keep_drew | apply keep_alloc) | exact HK.out)) (KeepBut.of_grown hg g) (Kd.R_base2 HO_9.out)); have HO112 := zA (ho); clear HO_9; clear ho hb hg hat))
        go_roundg k1
        case measure => have := HK1.out; omega
        case rel => exact ⟨(y110), (wrap64 (x22_1 + 1)), (by first | rfl | (simp; done) | (simp [*]; done)), H', ⟨by have := HK1.out; omega⟩, ⟨by (with_reducible repeat (first | apply zR | apply zS | apply zT)); exact HO112.out⟩, ⟨by (with_reducible repeat (first | apply zR | apply zS | apply zT)); exact HO_20.out⟩, ⟨by repeat (first | (with_reducible first | exact HI0.out | apply IsS119.alloc | apply IsS119.drewN | apply IsS119.drew | apply IsS119.set_1 | apply IsS119.set_2) | exact HI0.out)⟩, ⟨by repeat (first | (with_reducible first | exact HK.out | apply KeepBut.set_ | apply keep_drewN | apply keep_drew | apply keep_alloc) | exact HK.out)⟩, ⟨by repeat (first | (with_reducible first | exact HB.out | apply zB | apply zN | apply below_drew1 | refine zE ?_ (IsS119.ge HI0.out)) | exact HB.out)⟩⟩
       ·rw [if_neg c14] at H
        exact absurd H (by simp)
      ·rw [if_neg c13] at H
       exact absurd H (by simp)
     ·rw [if_neg c12] at H
      exact absurd H (by simp)
    ·rw [if_neg c11] at H
     have c11b0 : decide (x22_1 < (t104.length : Int)) = false := decide_eq_false c11
     clear c11
     replace H := Option.bind_eq_some_iff.mp H
     obtain ⟨⟨t113, t114, t115⟩, A160, H⟩ := H
     replace H : (if t113 = true then (some (([] : List Int), 1, t114, t115)) else (some (x9_1, 0, t114, t115))) = some (r1, r2, r3, r4) := H
     have A16 := zA A160
     clear A160
     by_cases c17 : t113 = true
     ·subst c17
      have H1 : (some (([] : List Int), 1, t114, t115)) = some (r1, r2, r3, r4) := by rw [if_pos rfl] at H; exact H
      clear H
      have H := H1
      clear H1
      simp only [Option.some.injEq, Prod.mk.injEq] at H
      obtain ⟨rfl, rfl, rfl, rfl⟩ := H
      go_wp2_with (first | ((with_reducible refine gate_callee (f := 96) rfl ?_); refine goesL_ (some 33) rfl rfl Tryd.func96 (by kernel_rfl) rfl #[.pointer (some ⟨g, 0, none⟩)] rfl (by (try simp only [zm, zc, zn]); first | done | rfl | (simp only [zd, zt]; rfl)) ?_; (with_reducible refine (octet_Reader_Bad.calls g s0_0 t107 t108 true t114 t115 w0 _ ?side1 ?side2 A16.out).mono ?_); (case side1 => repeat (first | (with_reducible first | exact HI0.out | apply IsS119.alloc | apply IsS119.drewN | apply IsS119.drew | apply IsS119.set_1 | apply IsS119.set_2) | exact HI0.out)); (case side2 => repeat (first | (with_reducible first | exact HB.out | apply zB | apply zN | apply below_drew1 | refine zE ?_ (IsS119.ge HI0.out)) | exact HB.out)); rintro e w18 ⟨rfl, hi, hb, hk⟩; refine ⟨_, rfl, ?_⟩; replace HO_9 := zA (Kd.R_mono (Kd.R_keep (IsS119.apart (show IsS119 w0 _ g s0_0 t107 t108 from by repeat (first | (with_reducible first | exact HI0.out | apply IsS119.alloc | apply IsS119.drewN | apply IsS119.drew | apply IsS119.set_1 | apply IsS119.set_2) | exact HI0.out)) (by (with_reducible repeat (first | apply zR | apply zS | apply zT)); exact HO_9.out) (by decide)) hk (fun _ h => h.2)) (fun _ h => h.1)); replace HO_20 := zA (Kd.R_mono (Kd.R_keep (IsS119.apart (show IsS119 w0 _ g s0_0 t107 t108 from by repeat (first | (with_reducible first | exact HI0.out | apply IsS119.alloc | apply IsS119.drewN | apply IsS119.drew | apply IsS119.set_1 | apply IsS119.set_2) | exact HI0.out)) (by (with_reducible repeat (first | apply zR | apply zS | apply zT)); exact HO_20.out) (by decide)) hk (fun _ h => h.2)) (fun _ h => h.1)); replace HK := zA (KeepBut.trans (by repeat (first | (with_reducible first | exact HK.out | apply KeepBut.set_ | apply keep_drewN | apply keep_drew | apply keep_alloc) | exact HK.out)) hk (.inl rfl)); replace HB := zA (hb); replace HI0 := zA (hi); (try clear hb); (try clear hb2); (try clear hk); (try clear hi)))
      go_ret2
      exact ⟨_, by first | rfl | (simp [errW_none, errW_some] <;> rfl) | (simp [*, errW_none, errW_some] <;> rfl), by first | exact Kd.R_nil _ _ _ _ _ | exact Kd.N_nil _ _ _ _ _ | exact Kd.V_nil _ _ _ _ _ | exact Kd.Q_nil _ _ _ _ _ | exact Kd.S_nil _ _ _ _ _, by repeat (first | (with_reducible first | exact HI0.out | apply IsS119.alloc | apply IsS119.drewN | apply IsS119.drew | apply IsS119.set_1 | apply IsS119.set_2) | exact HI0.out), by repeat (first | (with_reducible first | exact HB.out | apply zB | apply zN | apply below_drew1 | refine zE ?_ (IsS119.ge HI0.out)) | exact HB.out), by repeat (first | (with_reducible first | exact HK.out | apply KeepBut.set_ | apply keep_drewN | apply keep_drew | apply keep_alloc) | exact HK.out)⟩
     ·replace c17 := Bool.eq_false_iff.mpr c17
      subst c17
      have H1 : (some (x9_1, 0, t114, t115)) = some (r1, r2, r3, r4) := by rw [if_neg (show ¬ (false = true) by decide)] at H; exact H
      clear H
      have H := H1
      clear H1
      simp only [Option.some.injEq, Prod.mk.injEq] at H
      obtain ⟨rfl, rfl, rfl, rfl⟩ := H
      go_wp2_with (first | ((with_reducible refine gate_callee (f := 96) rfl ?_); refine goesL_ (some 33) rfl rfl Tryd.func96 (by kernel_rfl) rfl #[.pointer (some ⟨g, 0, none⟩)] rfl (by (try simp only [zm, zc, zn]); first | done | rfl | (simp only [zd, zt]; rfl)) ?_; (with_reducible refine (octet_Reader_Bad.calls g s0_0 t107 t108 false t114 t115 w0 _ ?side1 ?side2 A16.out).mono ?_); (case side1 => repeat (first | (with_reducible first | exact HI0.out | apply IsS119.alloc | apply IsS119.drewN | apply IsS119.drew | apply IsS119.set_1 | apply IsS119.set_2) | exact HI0.out)); (case side2 => repeat (first | (with_reducible first | exact HB.out | apply zB | apply zN | apply below_drew1 | refine zE ?_ (IsS119.ge HI0.out)) | exact HB.out)); rintro e w19 ⟨rfl, hi, hb, hk⟩; refine ⟨_, rfl, ?_⟩; replace HO_9 := zA (Kd.R_mono (Kd.R_keep (IsS119.apart (show IsS119 w0 _ g s0_0 t107 t108 from by repeat (first | (with_reducible first | exact HI0.out | apply IsS119.alloc | apply IsS119.drewN | apply IsS119.drew | apply IsS119.set_1 | apply IsS119.set_2) | exact HI0.out)) (by (with_reducible repeat (first | apply zR | apply zS | apply zT)); exact HO_9.out) (by decide)) hk (fun _ h => h.2)) (fun _ h => h.1)); replace HO_20 := zA (Kd.R_mono (Kd.R_keep (IsS119.apart (show IsS119 w0 _ g s0_0 t107 t108 from by repeat (first | (with_reducible first | exact HI0.out | apply IsS119.alloc | apply IsS119.drewN | apply IsS119.drew | apply IsS119.set_1 | apply IsS119.set_2) | exact HI0.out)) (by (with_reducible repeat (first | apply zR | apply zS | apply zT)); exact HO_20.out) (by decide)) hk (fun _ h => h.2)) (fun _ h => h.1)); replace HK := zA (KeepBut.trans (by repeat (first | (with_reducible first | exact HK.out | apply KeepBut.set_ | apply keep_drewN | apply keep_drew | apply keep_alloc) | exact HK.out)) hk (.inl rfl)); replace HB := zA (hb); replace HI0 := zA (hi); (try clear hb); (try clear hb2); (try clear hk); (try clear hi)))
      go_ret2
      exact ⟨_, by first | rfl | (simp [errW_none, errW_some] <;> rfl) | (simp [*, errW_none, errW_some] <;> rfl), by (with_reducible repeat (first | apply zR | apply zS | apply zT)); exact HO_9.out, by repeat (first | (with_reducible first | exact HI0.out | apply IsS119.alloc | apply IsS119.drewN | apply IsS119.drew | apply IsS119.set_1 | apply IsS119.set_2) | exact HI0.out), by repeat (first | (with_reducible first | exact HB.out | apply zB | apply zN | apply below_drew1 | refine zE ?_ (IsS119.ge HI0.out)) | exact HB.out), by repeat (first | (with_reducible first | exact HK.out | apply KeepBut.set_ | apply keep_drewN | apply keep_drew | apply keep_alloc) | exact HK.out)⟩

end Go.Proofs.YtdbfgfgbjheibaaDoor.PNum
end

section
/- Printed by a program of this session (wip/pg.py, over the print of the kit): functions, their Lean twins, and the proofs that the calls come to them; each under the conditions that it names. -/
namespace Go.Proofs.YtdbfgfgbjheibaaDoor.PNum
open Go.Proofs.YtdbfgfgbjheibaaDoor.Given
open Go.RowKit Go.Proofs.YtdbfgfgbjheibaaDoorW.PrintWords Go.Proofs.YtdbfgfgbjheibaaDoorW.PrintLast Go.Proofs.YtdbfgfgbjheibaaDoorW.PrintMore
attribute [local go_sem] max2_int min2_int max_two min_two max_three min_three max_four min_four   -- for this text's walks alone
set_option linter.unusedVariables false
set_option linter.unusedSimpArgs false

end Go.Proofs.YtdbfgfgbjheibaaDoor.PNum
end

section
/- Printed by a program of this session (wip/pg.py, over the print of the kit): functions, their Lean twins, and the proofs that the calls come to them; each under the conditions that it names. -/
namespace Go.Proofs.YtdbfgfgbjheibaaDoor.POp
open Go.Proofs.YtdbfgfgbjheibaaDoor.Given
open Go.RowKit Go.Proofs.YtdbfgfgbjheibaaDoorW.PrintWords Go.Proofs.YtdbfgfgbjheibaaDoorW.PrintLast Go.Proofs.YtdbfgfgbjheibaaDoorW.PrintMore
attribute [local go_sem] max2_int min2_int max_two min_two max_three min_three max_four min_four   -- for this text's walks alone
set_option linter.unusedVariables false
set_option linter.unusedSimpArgs false



def errW : Option Int → Value
 | none => .nilIface
 | some c => .iface 0 (.int .i64 c)
theorem errW_none : errW none = .nilIface := rfl
theorem errW_some (c : Int) : errW (some c) = .iface 0 (.int .i64 c) := rfl

-- the values' own types

end Go.Proofs.YtdbfgfgbjheibaaDoor.POp
end
