/- A step of the two edge blocks: what it makes of any block of ten numbers. -/
import Derived.Test.YtohdabkhafcdkaaWMore
import Derived.Test.YtohdabkhafcdkaaProg
import Derived.Test.YtohdabkhafcdkaaBlk
import Derived.Laws.CopyOwn
import Derived.Maps.Own
namespace Go.Proofs.Ytohdabkhafcdkaa
open Go Go.RowKit Go.Proofs.YtohdabkhafcdkaaW.PrintWords Go.Proofs.YtohdabkhafcdkaaW.PrintLast Go.Proofs.YtohdabkhafcdkaaW.PrintMore
set_option linter.unusedVariables false
set_option linter.unusedSimpArgs false
def instL (x0 x1 x2 x3 x4 x5 x6 x7 x8 x9 : Int) : List Value := [.int .i64 x0, .int .i64 x1, .int .i64 x2, .int .i64 x3, .int .i64 x4, .int .i64 x5, .int .i64 x6, .int .i64 x7, .int .i64 x8, .int .i64 x9]
/-- What a table of two truths says. -/
def pairD (a b : Int) : DataW Unit := ((DataW.map []).put (.bool true) (.lit (.int .i64 a))).put (.bool false) (.lit (.int .i64 b))
theorem insert_own (w : World) {ops : Array Oper} {rest : List Oper} {o : Oper} {a : Act} {Q : Exit → Act → World → Prop}
    (hg : o.guard = none) (m x v : Operand) (t : TypeId) (hop : o.op = Op.insert t m x v)
    (k e : TypeId) (K : Maps.Keyed Try.prog k) (ht : Try.prog.underlying t = some (.map k e)) (b n : Nat) (D : DataW Unit)
    (hm : a.eval m = .map (some b)) (hown : w.ownsMap Try.prog k (plainElem Try.prog e) b n D) (hn : n < maxLen) (key val : Value) (kl : Lit) (hx : a.eval x = key) (hv : a.eval v = val) (hkey : keyOf Try.prog k key = some kl)
    (d : DataW Unit) (hval : plainElem Try.prog e val = some (d, []))
    (hK : ∀ w', w'.ownsMap Try.prog k (plainElem Try.prog e) b (n + 1) (D.put kl d) → w.grownBy w' (some b) → wpList Try.prog ops Q rest (a.put o.dst undef) w') :
    wpList Try.prog ops Q (o :: rest) a w := by
  refine wpList_plain hg fun K' hK' => ?_
  obtain ⟨w', hrun, r1, r2⟩ := hown.update K ht hn hkey hval
  unfold Oper.wp
  simp [execOp, hop, hm, hx, hv, hrun, Result.andThen]
  exact hK' _ _ (hK w' r1 r2)
theorem Blk.Is.drew {w : World} {b t : Nat} {xs : List Value} (h : Blk.Is w b t xs) : Blk.Is w.drew b t xs := h
theorem Blk.Is.grown {w w2 : World} {b t : Nat} {xs : List Value} {row : Option Nat} (h : Blk.Is w b t xs) (hg : w.grownBy w2 row) (hne : some b ≠ row) : Blk.Is w2 b t xs := by
  have hl := h.lt
  unfold Blk.Is at h ⊢
  rw [hg.block b hl (fun e => hne (by rw [e]))]
  exact h
theorem grown_cell {w : World} {b i : Nat} (u : Value) : w.grownBy (w.setCell ⟨b, i, none⟩ u) (some b) :=
  ⟨rfl, rfl, rfl, by simp, fun k _ hk => Below.heap_setCell w ⟨b, i, none⟩ u k (fun e => hk (by rw [e]))⟩
theorem pair_look {w : World} {b n : Nat} (h : w.ownsMap Try.prog 4 (plainElem Try.prog 3) b n (pairD 1 0)) (v : Bool) : (Instr.lookup 73 (.map (some b)) (.bool v) false).run Try.prog w = .ok (.int .i64 (if v then 1 else 0)) w := by
  obtain ⟨c, hrun, hat, _⟩ := h.lookup_int (q := .i64) (Maps.bool_keyed Try.underlying4) Try.underlying73 Try.underlying3 (by rfl) (key := .bool v) (kl := .bool v) (by rfl)
  rw [hrun]
  cases v
  · have e : (pairD 1 0).atKey (.bool false) (.lit (.int .i64 0)) = .lit (.int .i64 0) := by rfl
    rw [e] at hat
    injection hat with hat
    injection hat with _ hat
    rw [← hat]
    rfl
  · have e : (pairD 1 0).atKey (.bool true) (.lit (.int .i64 0)) = .lit (.int .i64 1) := by rfl
    rw [e] at hat
    injection hat with hat
    injection hat with _ hat
    rw [← hat]
    rfl
theorem below_two {w w1 w2 : World} {o1 o2 o3 : Obj} (h1 : (((w.alloc o1).alloc o2).alloc o3).grownBy w1 (some (w.heap.size + 1 + 1))) (h2 : w1.grownBy w2 (some (w.heap.size + 1 + 1))) : Below w.heap.size w w2 := by
  have h0 : Below w.heap.size w (((w.alloc o1).alloc o2).alloc o3) := (((Below.refl _ _).alloc (Nat.le_refl _) _).alloc (by simp) _).alloc (by simp; omega) _
  exact ⟨h2.os.trans (h1.os.trans h0.os), h2.tape.trans (h1.tape.trans h0.tape), h2.output.trans (h1.output.trans h0.output), by have := h1.size; have := h2.size; have := h0.size; omega, fun k hk => by
    have hs := h0.size
    have hs1 := h1.size
    rw [h2.block k (by omega) (by simp; omega), h1.block k (by omega) (by simp; omega), h0.block k hk]⟩

def edge (kind x0 x2 : Int) : Int := if kind = 7 ∧ x0 ≠ 0 ∧ x2 = 0 ∨ kind = 8 ∧ x0 = 0 ∧ x2 ≠ 0 then 1 else 0
def truth (x0 : Int) : Int := if x0 = 0 then 0 else 1
def stepped (kind x0 x1 x2 x3 x4 x5 x6 x7 x8 x9 : Int) : List Value := if kind = 7 ∨ kind = 8 then instL x0 (edge kind x0 x2) (truth x0) x3 x4 x5 x6 x7 x8 x9 else instL x0 x1 x2 x3 x4 x5 x6 x7 x8 x9

set_option maxHeartbeats 2000000 in
theorem Step_700 (x1 x3 x4 x5 x6 x7 x8 x9 : Int) (w : World)  :
    Calls Try.prog 9 #[.int .i64 7, .agg (instL 0 x1 0 x3 x4 x5 x6 x7 x8 x9).toArray] w fun e w' => e = .returned (.agg (instL 0 0 0 x3 x4 x5 x6 x7 x8 x9).toArray) ∧ Below w.heap.size w w' := by
  have hB0 := fun o1 => Aside0.mk (((Blk.Is.new w 24 (instL 0 x1 0 x3 x4 x5 x6 x7 x8 x9)).alloc o1).alloc (.map #[] 0))
  have hB1 : ∀ o1 : Obj, Aside0 (Blk.Is (((w.alloc o1).alloc (.cells (instL 0 0 0 0 0 0 0 0 0 0).toArray 24)).alloc (.map #[] 0)) (w.heap.size + 1) 24 (instL 0 0 0 0 0 0 0 0 0 0)) := fun o1 => ⟨by
    have := (Blk.Is.new (w.alloc o1) 24 (instL 0 0 0 0 0 0 0 0 0 0)).alloc (.map #[] 0)
    rwa [show (w.alloc o1).heap.size = w.heap.size + 1 from by simp] at this⟩
  unfold instL at *
  have hmk := fun w => run_makeMap (P := Try.prog) 73 w
  have bk := Maps.bool_keyed (P := Try.prog) Try.underlying4
  have hmade : ∀ o1 o2 : Obj, Aside0 ((((w.alloc o1).alloc o2).alloc (.map #[] 0)).ownsMap Try.prog 4 (plainElem Try.prog 3) (w.heap.size + 1 + 1) 0 (.map [] : DataW Unit)) := fun o1 o2 => ⟨by
    have := World.ownsMap_made (H := Unit) ((w.alloc o1).alloc o2) Try.prog 4 (plainElem Try.prog 3)
    rwa [show ((w.alloc o1).alloc o2).heap.size = w.heap.size + 1 + 1 from by simp] at this⟩
  have hi : (Try.prog.info? 24).map (·.size) = some 10 := by kernel_rfl
  go_enter Try.func9, Try.ntmps9
  go_wp2_with first
    | (refine insert_own _ rfl (.tmp 8) (.const (.bool true)) (.const (.int .i64 1)) 73 rfl 4 3 bk Try.underlying73 (w.heap.size + 1 + 1) 0 (.map []) rfl (hmade _ _).out (by decide) (.bool true) (.int .i64 1) (.bool true) rfl rfl rfl (.lit (.int .i64 1)) rfl ?_; intro w1 ho1 hg1)
    | (refine insert_own _ rfl (.tmp 8) (.const (.bool false)) (.const (.int .i64 0)) 73 rfl 4 3 bk Try.underlying73 (w.heap.size + 1 + 1) 1 _ rfl ho1 (by decide) (.bool false) (.int .i64 0) (.bool false) rfl rfl rfl (.lit (.int .i64 0)) rfl ?_; intro w2 ho2 hg2; have B0 := Aside0.mk (((hB0 _).out.grown hg1 (by intro e; injection e with e; omega)).grown hg2 (by intro e; injection e with e; omega)); have B1 := Aside0.mk (((hB1 _).out.grown hg1 (by intro e; injection e with e; omega)).grown hg2 (by intro e; injection e with e; omega)); have HM := Aside0.mk ho2; have HBe := Aside0.mk (below_two hg1 hg2); clear ho1 ho2 hg1 hg2 hmade hmk hB0 hB1 bk)
  have c0 := B0.out.cell (i := 0) (v := .int .i64 0) rfl
  have c2 := B0.out.cell (i := 2) (v := .int .i64 0) rfl
  go_region
  clear c0 c2
  simp only [Exit.then]
  go_at_K
  replace HBe := Aside0.mk (below_drew HBe.out)
  have l1 := pair_look HM.out.drew
  have l2 := fun (u : Value) => pair_look (HM.out.kept (grown_cell (b := w.heap.size) (i := 1) u) (by intro e; injection e with e; omega)).drew
  have c1 := B0.out.cell (i := 1) (v := .int .i64 x1) rfl
  have f1 := B0.out.free 1
  have c2 := fun (u : Value) => (B0.out.set 1 u).cell (i := 2) (v := .int .i64 0) rfl
  have f2 := fun (u : Value) => (B0.out.set 1 u).free 2
  go_wp2_with first
    | ((with_reducible refine gate_dst (N := 47) rfl ?_); refine wpList_load_row rfl 24 (.tmp 3) rfl w.heap.size rfl 24 _ (0, 0) _ ((B0.out.set 1 _).set 2 _) Try.underlying24 rfl (by rw [hi]; rfl) ?_)
    | ((with_reducible refine gate_store (t := 24) (p := 4) (v := .tmp 47) rfl ?_); refine wpList_store_row rfl 24 (.tmp 4) (.tmp 47) rfl (w.heap.size + 1) _ rfl rfl 24 _ ((B1.out.other (b2 := w.heap.size) 1 _ (by omega)).other (b2 := w.heap.size) 2 _ (by omega)) (by rw [hi]; rfl) rfl (by kernel_rfl) ?_)
  refine bodyPost_ret (results_cell_row rfl _ _ (w.heap.size + 1) 24 _ (0, 0) _ rfl (setRow_heap _ _ (instL 0 0 0 0 0 0 0 0 0 0).toArray _ _ _ ?hh) Try.underlying24 rfl ?hi) rfl ?hp
  case hh => exact (B1.out.other (b2 := w.heap.size) 1 _ (by omega)).other (b2 := w.heap.size) 2 _ (by omega)
  case hi => (rw [hi]; rfl)
  case hp => exact ⟨rfl, below_setRow ((HBe.out.setCell (p := ⟨w.heap.size, 1, none⟩) (Nat.le_refl _) _).setCell (p := ⟨w.heap.size, 2, none⟩) (Nat.le_refl _) _) (by omega) _⟩
set_option maxHeartbeats 2000000 in
theorem Step_701 (x1 x2 x3 x4 x5 x6 x7 x8 x9 : Int) (w : World) (h2 : x2 ≠ 0) :
    Calls Try.prog 9 #[.int .i64 7, .agg (instL 0 x1 x2 x3 x4 x5 x6 x7 x8 x9).toArray] w fun e w' => e = .returned (.agg (instL 0 0 0 x3 x4 x5 x6 x7 x8 x9).toArray) ∧ Below w.heap.size w w' := by
  have b2 : (x2 != 0) = true := bne_iff_ne.2 h2
  have hB0 := fun o1 => Aside0.mk (((Blk.Is.new w 24 (instL 0 x1 x2 x3 x4 x5 x6 x7 x8 x9)).alloc o1).alloc (.map #[] 0))
  have hB1 : ∀ o1 : Obj, Aside0 (Blk.Is (((w.alloc o1).alloc (.cells (instL 0 0 0 0 0 0 0 0 0 0).toArray 24)).alloc (.map #[] 0)) (w.heap.size + 1) 24 (instL 0 0 0 0 0 0 0 0 0 0)) := fun o1 => ⟨by
    have := (Blk.Is.new (w.alloc o1) 24 (instL 0 0 0 0 0 0 0 0 0 0)).alloc (.map #[] 0)
    rwa [show (w.alloc o1).heap.size = w.heap.size + 1 from by simp] at this⟩
  unfold instL at *
  have hmk := fun w => run_makeMap (P := Try.prog) 73 w
  have bk := Maps.bool_keyed (P := Try.prog) Try.underlying4
  have hmade : ∀ o1 o2 : Obj, Aside0 ((((w.alloc o1).alloc o2).alloc (.map #[] 0)).ownsMap Try.prog 4 (plainElem Try.prog 3) (w.heap.size + 1 + 1) 0 (.map [] : DataW Unit)) := fun o1 o2 => ⟨by
    have := World.ownsMap_made (H := Unit) ((w.alloc o1).alloc o2) Try.prog 4 (plainElem Try.prog 3)
    rwa [show ((w.alloc o1).alloc o2).heap.size = w.heap.size + 1 + 1 from by simp] at this⟩
  have hi : (Try.prog.info? 24).map (·.size) = some 10 := by kernel_rfl
  go_enter Try.func9, Try.ntmps9
  go_wp2_with first
    | (refine insert_own _ rfl (.tmp 8) (.const (.bool true)) (.const (.int .i64 1)) 73 rfl 4 3 bk Try.underlying73 (w.heap.size + 1 + 1) 0 (.map []) rfl (hmade _ _).out (by decide) (.bool true) (.int .i64 1) (.bool true) rfl rfl rfl (.lit (.int .i64 1)) rfl ?_; intro w1 ho1 hg1)
    | (refine insert_own _ rfl (.tmp 8) (.const (.bool false)) (.const (.int .i64 0)) 73 rfl 4 3 bk Try.underlying73 (w.heap.size + 1 + 1) 1 _ rfl ho1 (by decide) (.bool false) (.int .i64 0) (.bool false) rfl rfl rfl (.lit (.int .i64 0)) rfl ?_; intro w2 ho2 hg2; have B0 := Aside0.mk (((hB0 _).out.grown hg1 (by intro e; injection e with e; omega)).grown hg2 (by intro e; injection e with e; omega)); have B1 := Aside0.mk (((hB1 _).out.grown hg1 (by intro e; injection e with e; omega)).grown hg2 (by intro e; injection e with e; omega)); have HM := Aside0.mk ho2; have HBe := Aside0.mk (below_two hg1 hg2); clear ho1 ho2 hg1 hg2 hmade hmk hB0 hB1 bk)
  have c0 := B0.out.cell (i := 0) (v := .int .i64 0) rfl
  have c2 := B0.out.cell (i := 2) (v := .int .i64 x2) rfl
  go_region
  clear c0 c2
  simp only [Exit.then]
  go_at_K
  replace HBe := Aside0.mk (below_drew HBe.out)
  have l1 := pair_look HM.out.drew
  have l2 := fun (u : Value) => pair_look (HM.out.kept (grown_cell (b := w.heap.size) (i := 1) u) (by intro e; injection e with e; omega)).drew
  have c1 := B0.out.cell (i := 1) (v := .int .i64 x1) rfl
  have f1 := B0.out.free 1
  have c2 := fun (u : Value) => (B0.out.set 1 u).cell (i := 2) (v := .int .i64 x2) rfl
  have f2 := fun (u : Value) => (B0.out.set 1 u).free 2
  go_wp2_with first
    | ((with_reducible refine gate_dst (N := 47) rfl ?_); refine wpList_load_row rfl 24 (.tmp 3) rfl w.heap.size rfl 24 _ (0, 0) _ ((B0.out.set 1 _).set 2 _) Try.underlying24 rfl (by rw [hi]; rfl) ?_)
    | ((with_reducible refine gate_store (t := 24) (p := 4) (v := .tmp 47) rfl ?_); refine wpList_store_row rfl 24 (.tmp 4) (.tmp 47) rfl (w.heap.size + 1) _ rfl rfl 24 _ ((B1.out.other (b2 := w.heap.size) 1 _ (by omega)).other (b2 := w.heap.size) 2 _ (by omega)) (by rw [hi]; rfl) rfl (by kernel_rfl) ?_)
  refine bodyPost_ret (results_cell_row rfl _ _ (w.heap.size + 1) 24 _ (0, 0) _ rfl (setRow_heap _ _ (instL 0 0 0 0 0 0 0 0 0 0).toArray _ _ _ ?hh) Try.underlying24 rfl ?hi) rfl ?hp
  case hh => exact (B1.out.other (b2 := w.heap.size) 1 _ (by omega)).other (b2 := w.heap.size) 2 _ (by omega)
  case hi => (rw [hi]; rfl)
  case hp => exact ⟨rfl, below_setRow ((HBe.out.setCell (p := ⟨w.heap.size, 1, none⟩) (Nat.le_refl _) _).setCell (p := ⟨w.heap.size, 2, none⟩) (Nat.le_refl _) _) (by omega) _⟩
set_option maxHeartbeats 2000000 in
theorem Step_710 (x0 x1 x3 x4 x5 x6 x7 x8 x9 : Int) (w : World) (h0 : x0 ≠ 0)  :
    Calls Try.prog 9 #[.int .i64 7, .agg (instL x0 x1 0 x3 x4 x5 x6 x7 x8 x9).toArray] w fun e w' => e = .returned (.agg (instL x0 1 1 x3 x4 x5 x6 x7 x8 x9).toArray) ∧ Below w.heap.size w w' := by
  have b0 : (x0 != 0) = true := bne_iff_ne.2 h0
  have hB0 := fun o1 => Aside0.mk (((Blk.Is.new w 24 (instL x0 x1 0 x3 x4 x5 x6 x7 x8 x9)).alloc o1).alloc (.map #[] 0))
  have hB1 : ∀ o1 : Obj, Aside0 (Blk.Is (((w.alloc o1).alloc (.cells (instL 0 0 0 0 0 0 0 0 0 0).toArray 24)).alloc (.map #[] 0)) (w.heap.size + 1) 24 (instL 0 0 0 0 0 0 0 0 0 0)) := fun o1 => ⟨by
    have := (Blk.Is.new (w.alloc o1) 24 (instL 0 0 0 0 0 0 0 0 0 0)).alloc (.map #[] 0)
    rwa [show (w.alloc o1).heap.size = w.heap.size + 1 from by simp] at this⟩
  unfold instL at *
  have hmk := fun w => run_makeMap (P := Try.prog) 73 w
  have bk := Maps.bool_keyed (P := Try.prog) Try.underlying4
  have hmade : ∀ o1 o2 : Obj, Aside0 ((((w.alloc o1).alloc o2).alloc (.map #[] 0)).ownsMap Try.prog 4 (plainElem Try.prog 3) (w.heap.size + 1 + 1) 0 (.map [] : DataW Unit)) := fun o1 o2 => ⟨by
    have := World.ownsMap_made (H := Unit) ((w.alloc o1).alloc o2) Try.prog 4 (plainElem Try.prog 3)
    rwa [show ((w.alloc o1).alloc o2).heap.size = w.heap.size + 1 + 1 from by simp] at this⟩
  have hi : (Try.prog.info? 24).map (·.size) = some 10 := by kernel_rfl
  go_enter Try.func9, Try.ntmps9
  go_wp2_with first
    | (refine insert_own _ rfl (.tmp 8) (.const (.bool true)) (.const (.int .i64 1)) 73 rfl 4 3 bk Try.underlying73 (w.heap.size + 1 + 1) 0 (.map []) rfl (hmade _ _).out (by decide) (.bool true) (.int .i64 1) (.bool true) rfl rfl rfl (.lit (.int .i64 1)) rfl ?_; intro w1 ho1 hg1)
    | (refine insert_own _ rfl (.tmp 8) (.const (.bool false)) (.const (.int .i64 0)) 73 rfl 4 3 bk Try.underlying73 (w.heap.size + 1 + 1) 1 _ rfl ho1 (by decide) (.bool false) (.int .i64 0) (.bool false) rfl rfl rfl (.lit (.int .i64 0)) rfl ?_; intro w2 ho2 hg2; have B0 := Aside0.mk (((hB0 _).out.grown hg1 (by intro e; injection e with e; omega)).grown hg2 (by intro e; injection e with e; omega)); have B1 := Aside0.mk (((hB1 _).out.grown hg1 (by intro e; injection e with e; omega)).grown hg2 (by intro e; injection e with e; omega)); have HM := Aside0.mk ho2; have HBe := Aside0.mk (below_two hg1 hg2); clear ho1 ho2 hg1 hg2 hmade hmk hB0 hB1 bk)
  have c0 := B0.out.cell (i := 0) (v := .int .i64 x0) rfl
  have c2 := B0.out.cell (i := 2) (v := .int .i64 0) rfl
  go_region
  clear c0 c2
  simp only [Exit.then]
  go_at_K
  replace HBe := Aside0.mk (below_drew HBe.out)
  have l1 := pair_look HM.out.drew
  have l2 := fun (u : Value) => pair_look (HM.out.kept (grown_cell (b := w.heap.size) (i := 1) u) (by intro e; injection e with e; omega)).drew
  have c1 := B0.out.cell (i := 1) (v := .int .i64 x1) rfl
  have f1 := B0.out.free 1
  have c2 := fun (u : Value) => (B0.out.set 1 u).cell (i := 2) (v := .int .i64 0) rfl
  have f2 := fun (u : Value) => (B0.out.set 1 u).free 2
  go_wp2_with first
    | ((with_reducible refine gate_dst (N := 47) rfl ?_); refine wpList_load_row rfl 24 (.tmp 3) rfl w.heap.size rfl 24 _ (0, 0) _ ((B0.out.set 1 _).set 2 _) Try.underlying24 rfl (by rw [hi]; rfl) ?_)
    | ((with_reducible refine gate_store (t := 24) (p := 4) (v := .tmp 47) rfl ?_); refine wpList_store_row rfl 24 (.tmp 4) (.tmp 47) rfl (w.heap.size + 1) _ rfl rfl 24 _ ((B1.out.other (b2 := w.heap.size) 1 _ (by omega)).other (b2 := w.heap.size) 2 _ (by omega)) (by rw [hi]; rfl) rfl (by kernel_rfl) ?_)
  refine bodyPost_ret (results_cell_row rfl _ _ (w.heap.size + 1) 24 _ (0, 0) _ rfl (setRow_heap _ _ (instL 0 0 0 0 0 0 0 0 0 0).toArray _ _ _ ?hh) Try.underlying24 rfl ?hi) rfl ?hp
  case hh => exact (B1.out.other (b2 := w.heap.size) 1 _ (by omega)).other (b2 := w.heap.size) 2 _ (by omega)
  case hi => (rw [hi]; rfl)
  case hp => exact ⟨rfl, below_setRow ((HBe.out.setCell (p := ⟨w.heap.size, 1, none⟩) (Nat.le_refl _) _).setCell (p := ⟨w.heap.size, 2, none⟩) (Nat.le_refl _) _) (by omega) _⟩
set_option maxHeartbeats 2000000 in
theorem Step_711 (x0 x1 x2 x3 x4 x5 x6 x7 x8 x9 : Int) (w : World) (h0 : x0 ≠ 0) (h2 : x2 ≠ 0) :
    Calls Try.prog 9 #[.int .i64 7, .agg (instL x0 x1 x2 x3 x4 x5 x6 x7 x8 x9).toArray] w fun e w' => e = .returned (.agg (instL x0 0 1 x3 x4 x5 x6 x7 x8 x9).toArray) ∧ Below w.heap.size w w' := by
  have b0 : (x0 != 0) = true := bne_iff_ne.2 h0
  have b2 : (x2 != 0) = true := bne_iff_ne.2 h2
  have hB0 := fun o1 => Aside0.mk (((Blk.Is.new w 24 (instL x0 x1 x2 x3 x4 x5 x6 x7 x8 x9)).alloc o1).alloc (.map #[] 0))
  have hB1 : ∀ o1 : Obj, Aside0 (Blk.Is (((w.alloc o1).alloc (.cells (instL 0 0 0 0 0 0 0 0 0 0).toArray 24)).alloc (.map #[] 0)) (w.heap.size + 1) 24 (instL 0 0 0 0 0 0 0 0 0 0)) := fun o1 => ⟨by
    have := (Blk.Is.new (w.alloc o1) 24 (instL 0 0 0 0 0 0 0 0 0 0)).alloc (.map #[] 0)
    rwa [show (w.alloc o1).heap.size = w.heap.size + 1 from by simp] at this⟩
  unfold instL at *
  have hmk := fun w => run_makeMap (P := Try.prog) 73 w
  have bk := Maps.bool_keyed (P := Try.prog) Try.underlying4
  have hmade : ∀ o1 o2 : Obj, Aside0 ((((w.alloc o1).alloc o2).alloc (.map #[] 0)).ownsMap Try.prog 4 (plainElem Try.prog 3) (w.heap.size + 1 + 1) 0 (.map [] : DataW Unit)) := fun o1 o2 => ⟨by
    have := World.ownsMap_made (H := Unit) ((w.alloc o1).alloc o2) Try.prog 4 (plainElem Try.prog 3)
    rwa [show ((w.alloc o1).alloc o2).heap.size = w.heap.size + 1 + 1 from by simp] at this⟩
  have hi : (Try.prog.info? 24).map (·.size) = some 10 := by kernel_rfl
  go_enter Try.func9, Try.ntmps9
  go_wp2_with first
    | (refine insert_own _ rfl (.tmp 8) (.const (.bool true)) (.const (.int .i64 1)) 73 rfl 4 3 bk Try.underlying73 (w.heap.size + 1 + 1) 0 (.map []) rfl (hmade _ _).out (by decide) (.bool true) (.int .i64 1) (.bool true) rfl rfl rfl (.lit (.int .i64 1)) rfl ?_; intro w1 ho1 hg1)
    | (refine insert_own _ rfl (.tmp 8) (.const (.bool false)) (.const (.int .i64 0)) 73 rfl 4 3 bk Try.underlying73 (w.heap.size + 1 + 1) 1 _ rfl ho1 (by decide) (.bool false) (.int .i64 0) (.bool false) rfl rfl rfl (.lit (.int .i64 0)) rfl ?_; intro w2 ho2 hg2; have B0 := Aside0.mk (((hB0 _).out.grown hg1 (by intro e; injection e with e; omega)).grown hg2 (by intro e; injection e with e; omega)); have B1 := Aside0.mk (((hB1 _).out.grown hg1 (by intro e; injection e with e; omega)).grown hg2 (by intro e; injection e with e; omega)); have HM := Aside0.mk ho2; have HBe := Aside0.mk (below_two hg1 hg2); clear ho1 ho2 hg1 hg2 hmade hmk hB0 hB1 bk)
  have c0 := B0.out.cell (i := 0) (v := .int .i64 x0) rfl
  have c2 := B0.out.cell (i := 2) (v := .int .i64 x2) rfl
  go_region
  clear c0 c2
  simp only [Exit.then]
  go_at_K
  replace HBe := Aside0.mk (below_drew HBe.out)
  have l1 := pair_look HM.out.drew
  have l2 := fun (u : Value) => pair_look (HM.out.kept (grown_cell (b := w.heap.size) (i := 1) u) (by intro e; injection e with e; omega)).drew
  have c1 := B0.out.cell (i := 1) (v := .int .i64 x1) rfl
  have f1 := B0.out.free 1
  have c2 := fun (u : Value) => (B0.out.set 1 u).cell (i := 2) (v := .int .i64 x2) rfl
  have f2 := fun (u : Value) => (B0.out.set 1 u).free 2
  go_wp2_with first
    | ((with_reducible refine gate_dst (N := 47) rfl ?_); refine wpList_load_row rfl 24 (.tmp 3) rfl w.heap.size rfl 24 _ (0, 0) _ ((B0.out.set 1 _).set 2 _) Try.underlying24 rfl (by rw [hi]; rfl) ?_)
    | ((with_reducible refine gate_store (t := 24) (p := 4) (v := .tmp 47) rfl ?_); refine wpList_store_row rfl 24 (.tmp 4) (.tmp 47) rfl (w.heap.size + 1) _ rfl rfl 24 _ ((B1.out.other (b2 := w.heap.size) 1 _ (by omega)).other (b2 := w.heap.size) 2 _ (by omega)) (by rw [hi]; rfl) rfl (by kernel_rfl) ?_)
  refine bodyPost_ret (results_cell_row rfl _ _ (w.heap.size + 1) 24 _ (0, 0) _ rfl (setRow_heap _ _ (instL 0 0 0 0 0 0 0 0 0 0).toArray _ _ _ ?hh) Try.underlying24 rfl ?hi) rfl ?hp
  case hh => exact (B1.out.other (b2 := w.heap.size) 1 _ (by omega)).other (b2 := w.heap.size) 2 _ (by omega)
  case hi => (rw [hi]; rfl)
  case hp => exact ⟨rfl, below_setRow ((HBe.out.setCell (p := ⟨w.heap.size, 1, none⟩) (Nat.le_refl _) _).setCell (p := ⟨w.heap.size, 2, none⟩) (Nat.le_refl _) _) (by omega) _⟩
set_option maxHeartbeats 2000000 in
theorem Step_800 (x1 x3 x4 x5 x6 x7 x8 x9 : Int) (w : World)  :
    Calls Try.prog 9 #[.int .i64 8, .agg (instL 0 x1 0 x3 x4 x5 x6 x7 x8 x9).toArray] w fun e w' => e = .returned (.agg (instL 0 0 0 x3 x4 x5 x6 x7 x8 x9).toArray) ∧ Below w.heap.size w w' := by
  have hB0 := fun o1 => Aside0.mk (((Blk.Is.new w 24 (instL 0 x1 0 x3 x4 x5 x6 x7 x8 x9)).alloc o1).alloc (.map #[] 0))
  have hB1 : ∀ o1 : Obj, Aside0 (Blk.Is (((w.alloc o1).alloc (.cells (instL 0 0 0 0 0 0 0 0 0 0).toArray 24)).alloc (.map #[] 0)) (w.heap.size + 1) 24 (instL 0 0 0 0 0 0 0 0 0 0)) := fun o1 => ⟨by
    have := (Blk.Is.new (w.alloc o1) 24 (instL 0 0 0 0 0 0 0 0 0 0)).alloc (.map #[] 0)
    rwa [show (w.alloc o1).heap.size = w.heap.size + 1 from by simp] at this⟩
  unfold instL at *
  have hmk := fun w => run_makeMap (P := Try.prog) 73 w
  have bk := Maps.bool_keyed (P := Try.prog) Try.underlying4
  have hmade : ∀ o1 o2 : Obj, Aside0 ((((w.alloc o1).alloc o2).alloc (.map #[] 0)).ownsMap Try.prog 4 (plainElem Try.prog 3) (w.heap.size + 1 + 1) 0 (.map [] : DataW Unit)) := fun o1 o2 => ⟨by
    have := World.ownsMap_made (H := Unit) ((w.alloc o1).alloc o2) Try.prog 4 (plainElem Try.prog 3)
    rwa [show ((w.alloc o1).alloc o2).heap.size = w.heap.size + 1 + 1 from by simp] at this⟩
  have hi : (Try.prog.info? 24).map (·.size) = some 10 := by kernel_rfl
  go_enter Try.func9, Try.ntmps9
  go_wp2_with first
    | (refine insert_own _ rfl (.tmp 8) (.const (.bool true)) (.const (.int .i64 1)) 73 rfl 4 3 bk Try.underlying73 (w.heap.size + 1 + 1) 0 (.map []) rfl (hmade _ _).out (by decide) (.bool true) (.int .i64 1) (.bool true) rfl rfl rfl (.lit (.int .i64 1)) rfl ?_; intro w1 ho1 hg1)
    | (refine insert_own _ rfl (.tmp 8) (.const (.bool false)) (.const (.int .i64 0)) 73 rfl 4 3 bk Try.underlying73 (w.heap.size + 1 + 1) 1 _ rfl ho1 (by decide) (.bool false) (.int .i64 0) (.bool false) rfl rfl rfl (.lit (.int .i64 0)) rfl ?_; intro w2 ho2 hg2; have B0 := Aside0.mk (((hB0 _).out.grown hg1 (by intro e; injection e with e; omega)).grown hg2 (by intro e; injection e with e; omega)); have B1 := Aside0.mk (((hB1 _).out.grown hg1 (by intro e; injection e with e; omega)).grown hg2 (by intro e; injection e with e; omega)); have HM := Aside0.mk ho2; have HBe := Aside0.mk (below_two hg1 hg2); clear ho1 ho2 hg1 hg2 hmade hmk hB0 hB1 bk)
  have c0 := B0.out.cell (i := 0) (v := .int .i64 0) rfl
  have c2 := B0.out.cell (i := 2) (v := .int .i64 0) rfl
  go_region
  clear c0 c2
  simp only [Exit.then]
  go_at_K
  replace HBe := Aside0.mk (below_drew HBe.out)
  have l1 := pair_look HM.out.drew
  have l2 := fun (u : Value) => pair_look (HM.out.kept (grown_cell (b := w.heap.size) (i := 1) u) (by intro e; injection e with e; omega)).drew
  have c1 := B0.out.cell (i := 1) (v := .int .i64 x1) rfl
  have f1 := B0.out.free 1
  have c2 := fun (u : Value) => (B0.out.set 1 u).cell (i := 2) (v := .int .i64 0) rfl
  have f2 := fun (u : Value) => (B0.out.set 1 u).free 2
  go_wp2_with first
    | ((with_reducible refine gate_dst (N := 47) rfl ?_); refine wpList_load_row rfl 24 (.tmp 3) rfl w.heap.size rfl 24 _ (0, 0) _ ((B0.out.set 1 _).set 2 _) Try.underlying24 rfl (by rw [hi]; rfl) ?_)
    | ((with_reducible refine gate_store (t := 24) (p := 4) (v := .tmp 47) rfl ?_); refine wpList_store_row rfl 24 (.tmp 4) (.tmp 47) rfl (w.heap.size + 1) _ rfl rfl 24 _ ((B1.out.other (b2 := w.heap.size) 1 _ (by omega)).other (b2 := w.heap.size) 2 _ (by omega)) (by rw [hi]; rfl) rfl (by kernel_rfl) ?_)
  refine bodyPost_ret (results_cell_row rfl _ _ (w.heap.size + 1) 24 _ (0, 0) _ rfl (setRow_heap _ _ (instL 0 0 0 0 0 0 0 0 0 0).toArray _ _ _ ?hh) Try.underlying24 rfl ?hi) rfl ?hp
  case hh => exact (B1.out.other (b2 := w.heap.size) 1 _ (by omega)).other (b2 := w.heap.size) 2 _ (by omega)
  case hi => (rw [hi]; rfl)
  case hp => exact ⟨rfl, below_setRow ((HBe.out.setCell (p := ⟨w.heap.size, 1, none⟩) (Nat.le_refl _) _).setCell (p := ⟨w.heap.size, 2, none⟩) (Nat.le_refl _) _) (by omega) _⟩
set_option maxHeartbeats 2000000 in
theorem Step_801 (x1 x2 x3 x4 x5 x6 x7 x8 x9 : Int) (w : World) (h2 : x2 ≠ 0) :
    Calls Try.prog 9 #[.int .i64 8, .agg (instL 0 x1 x2 x3 x4 x5 x6 x7 x8 x9).toArray] w fun e w' => e = .returned (.agg (instL 0 1 0 x3 x4 x5 x6 x7 x8 x9).toArray) ∧ Below w.heap.size w w' := by
  have b2 : (x2 != 0) = true := bne_iff_ne.2 h2
  have hB0 := fun o1 => Aside0.mk (((Blk.Is.new w 24 (instL 0 x1 x2 x3 x4 x5 x6 x7 x8 x9)).alloc o1).alloc (.map #[] 0))
  have hB1 : ∀ o1 : Obj, Aside0 (Blk.Is (((w.alloc o1).alloc (.cells (instL 0 0 0 0 0 0 0 0 0 0).toArray 24)).alloc (.map #[] 0)) (w.heap.size + 1) 24 (instL 0 0 0 0 0 0 0 0 0 0)) := fun o1 => ⟨by
    have := (Blk.Is.new (w.alloc o1) 24 (instL 0 0 0 0 0 0 0 0 0 0)).alloc (.map #[] 0)
    rwa [show (w.alloc o1).heap.size = w.heap.size + 1 from by simp] at this⟩
  unfold instL at *
  have hmk := fun w => run_makeMap (P := Try.prog) 73 w
  have bk := Maps.bool_keyed (P := Try.prog) Try.underlying4
  have hmade : ∀ o1 o2 : Obj, Aside0 ((((w.alloc o1).alloc o2).alloc (.map #[] 0)).ownsMap Try.prog 4 (plainElem Try.prog 3) (w.heap.size + 1 + 1) 0 (.map [] : DataW Unit)) := fun o1 o2 => ⟨by
    have := World.ownsMap_made (H := Unit) ((w.alloc o1).alloc o2) Try.prog 4 (plainElem Try.prog 3)
    rwa [show ((w.alloc o1).alloc o2).heap.size = w.heap.size + 1 + 1 from by simp] at this⟩
  have hi : (Try.prog.info? 24).map (·.size) = some 10 := by kernel_rfl
  go_enter Try.func9, Try.ntmps9
  go_wp2_with first
    | (refine insert_own _ rfl (.tmp 8) (.const (.bool true)) (.const (.int .i64 1)) 73 rfl 4 3 bk Try.underlying73 (w.heap.size + 1 + 1) 0 (.map []) rfl (hmade _ _).out (by decide) (.bool true) (.int .i64 1) (.bool true) rfl rfl rfl (.lit (.int .i64 1)) rfl ?_; intro w1 ho1 hg1)
    | (refine insert_own _ rfl (.tmp 8) (.const (.bool false)) (.const (.int .i64 0)) 73 rfl 4 3 bk Try.underlying73 (w.heap.size + 1 + 1) 1 _ rfl ho1 (by decide) (.bool false) (.int .i64 0) (.bool false) rfl rfl rfl (.lit (.int .i64 0)) rfl ?_; intro w2 ho2 hg2; have B0 := Aside0.mk (((hB0 _).out.grown hg1 (by intro e; injection e with e; omega)).grown hg2 (by intro e; injection e with e; omega)); have B1 := Aside0.mk (((hB1 _).out.grown hg1 (by intro e; injection e with e; omega)).grown hg2 (by intro e; injection e with e; omega)); have HM := Aside0.mk ho2; have HBe := Aside0.mk (below_two hg1 hg2); clear ho1 ho2 hg1 hg2 hmade hmk hB0 hB1 bk)
  have c0 := B0.out.cell (i := 0) (v := .int .i64 0) rfl
  have c2 := B0.out.cell (i := 2) (v := .int .i64 x2) rfl
  go_region
  clear c0 c2
  simp only [Exit.then]
  go_at_K
  replace HBe := Aside0.mk (below_drew HBe.out)
  have l1 := pair_look HM.out.drew
  have l2 := fun (u : Value) => pair_look (HM.out.kept (grown_cell (b := w.heap.size) (i := 1) u) (by intro e; injection e with e; omega)).drew
  have c1 := B0.out.cell (i := 1) (v := .int .i64 x1) rfl
  have f1 := B0.out.free 1
  have c2 := fun (u : Value) => (B0.out.set 1 u).cell (i := 2) (v := .int .i64 x2) rfl
  have f2 := fun (u : Value) => (B0.out.set 1 u).free 2
  go_wp2_with first
    | ((with_reducible refine gate_dst (N := 47) rfl ?_); refine wpList_load_row rfl 24 (.tmp 3) rfl w.heap.size rfl 24 _ (0, 0) _ ((B0.out.set 1 _).set 2 _) Try.underlying24 rfl (by rw [hi]; rfl) ?_)
    | ((with_reducible refine gate_store (t := 24) (p := 4) (v := .tmp 47) rfl ?_); refine wpList_store_row rfl 24 (.tmp 4) (.tmp 47) rfl (w.heap.size + 1) _ rfl rfl 24 _ ((B1.out.other (b2 := w.heap.size) 1 _ (by omega)).other (b2 := w.heap.size) 2 _ (by omega)) (by rw [hi]; rfl) rfl (by kernel_rfl) ?_)
  refine bodyPost_ret (results_cell_row rfl _ _ (w.heap.size + 1) 24 _ (0, 0) _ rfl (setRow_heap _ _ (instL 0 0 0 0 0 0 0 0 0 0).toArray _ _ _ ?hh) Try.underlying24 rfl ?hi) rfl ?hp
  case hh => exact (B1.out.other (b2 := w.heap.size) 1 _ (by omega)).other (b2 := w.heap.size) 2 _ (by omega)
  case hi => (rw [hi]; rfl)
  case hp => exact ⟨rfl, below_setRow ((HBe.out.setCell (p := ⟨w.heap.size, 1, none⟩) (Nat.le_refl _) _).setCell (p := ⟨w.heap.size, 2, none⟩) (Nat.le_refl _) _) (by omega) _⟩
set_option maxHeartbeats 2000000 in
theorem Step_810 (x0 x1 x3 x4 x5 x6 x7 x8 x9 : Int) (w : World) (h0 : x0 ≠ 0)  :
    Calls Try.prog 9 #[.int .i64 8, .agg (instL x0 x1 0 x3 x4 x5 x6 x7 x8 x9).toArray] w fun e w' => e = .returned (.agg (instL x0 0 1 x3 x4 x5 x6 x7 x8 x9).toArray) ∧ Below w.heap.size w w' := by
  have b0 : (x0 != 0) = true := bne_iff_ne.2 h0
  have hB0 := fun o1 => Aside0.mk (((Blk.Is.new w 24 (instL x0 x1 0 x3 x4 x5 x6 x7 x8 x9)).alloc o1).alloc (.map #[] 0))
  have hB1 : ∀ o1 : Obj, Aside0 (Blk.Is (((w.alloc o1).alloc (.cells (instL 0 0 0 0 0 0 0 0 0 0).toArray 24)).alloc (.map #[] 0)) (w.heap.size + 1) 24 (instL 0 0 0 0 0 0 0 0 0 0)) := fun o1 => ⟨by
    have := (Blk.Is.new (w.alloc o1) 24 (instL 0 0 0 0 0 0 0 0 0 0)).alloc (.map #[] 0)
    rwa [show (w.alloc o1).heap.size = w.heap.size + 1 from by simp] at this⟩
  unfold instL at *
  have hmk := fun w => run_makeMap (P := Try.prog) 73 w
  have bk := Maps.bool_keyed (P := Try.prog) Try.underlying4
  have hmade : ∀ o1 o2 : Obj, Aside0 ((((w.alloc o1).alloc o2).alloc (.map #[] 0)).ownsMap Try.prog 4 (plainElem Try.prog 3) (w.heap.size + 1 + 1) 0 (.map [] : DataW Unit)) := fun o1 o2 => ⟨by
    have := World.ownsMap_made (H := Unit) ((w.alloc o1).alloc o2) Try.prog 4 (plainElem Try.prog 3)
    rwa [show ((w.alloc o1).alloc o2).heap.size = w.heap.size + 1 + 1 from by simp] at this⟩
  have hi : (Try.prog.info? 24).map (·.size) = some 10 := by kernel_rfl
  go_enter Try.func9, Try.ntmps9
  go_wp2_with first
    | (refine insert_own _ rfl (.tmp 8) (.const (.bool true)) (.const (.int .i64 1)) 73 rfl 4 3 bk Try.underlying73 (w.heap.size + 1 + 1) 0 (.map []) rfl (hmade _ _).out (by decide) (.bool true) (.int .i64 1) (.bool true) rfl rfl rfl (.lit (.int .i64 1)) rfl ?_; intro w1 ho1 hg1)
    | (refine insert_own _ rfl (.tmp 8) (.const (.bool false)) (.const (.int .i64 0)) 73 rfl 4 3 bk Try.underlying73 (w.heap.size + 1 + 1) 1 _ rfl ho1 (by decide) (.bool false) (.int .i64 0) (.bool false) rfl rfl rfl (.lit (.int .i64 0)) rfl ?_; intro w2 ho2 hg2; have B0 := Aside0.mk (((hB0 _).out.grown hg1 (by intro e; injection e with e; omega)).grown hg2 (by intro e; injection e with e; omega)); have B1 := Aside0.mk (((hB1 _).out.grown hg1 (by intro e; injection e with e; omega)).grown hg2 (by intro e; injection e with e; omega)); have HM := Aside0.mk ho2; have HBe := Aside0.mk (below_two hg1 hg2); clear ho1 ho2 hg1 hg2 hmade hmk hB0 hB1 bk)
  have c0 := B0.out.cell (i := 0) (v := .int .i64 x0) rfl
  have c2 := B0.out.cell (i := 2) (v := .int .i64 0) rfl
  go_region
  clear c0 c2
  simp only [Exit.then]
  go_at_K
  replace HBe := Aside0.mk (below_drew HBe.out)
  have l1 := pair_look HM.out.drew
  have l2 := fun (u : Value) => pair_look (HM.out.kept (grown_cell (b := w.heap.size) (i := 1) u) (by intro e; injection e with e; omega)).drew
  have c1 := B0.out.cell (i := 1) (v := .int .i64 x1) rfl
  have f1 := B0.out.free 1
  have c2 := fun (u : Value) => (B0.out.set 1 u).cell (i := 2) (v := .int .i64 0) rfl
  have f2 := fun (u : Value) => (B0.out.set 1 u).free 2
  go_wp2_with first
    | ((with_reducible refine gate_dst (N := 47) rfl ?_); refine wpList_load_row rfl 24 (.tmp 3) rfl w.heap.size rfl 24 _ (0, 0) _ ((B0.out.set 1 _).set 2 _) Try.underlying24 rfl (by rw [hi]; rfl) ?_)
    | ((with_reducible refine gate_store (t := 24) (p := 4) (v := .tmp 47) rfl ?_); refine wpList_store_row rfl 24 (.tmp 4) (.tmp 47) rfl (w.heap.size + 1) _ rfl rfl 24 _ ((B1.out.other (b2 := w.heap.size) 1 _ (by omega)).other (b2 := w.heap.size) 2 _ (by omega)) (by rw [hi]; rfl) rfl (by kernel_rfl) ?_)
  refine bodyPost_ret (results_cell_row rfl _ _ (w.heap.size + 1) 24 _ (0, 0) _ rfl (setRow_heap _ _ (instL 0 0 0 0 0 0 0 0 0 0).toArray _ _ _ ?hh) Try.underlying24 rfl ?hi) rfl ?hp
  case hh => exact (B1.out.other (b2 := w.heap.size) 1 _ (by omega)).other (b2 := w.heap.size) 2 _ (by omega)
  case hi => (rw [hi]; rfl)
  case hp => exact ⟨rfl, below_setRow ((HBe.out.setCell (p := ⟨w.heap.size, 1, none⟩) (Nat.le_refl _) _).setCell (p := ⟨w.heap.size, 2, none⟩) (Nat.le_refl _) _) (by omega) _⟩
set_option maxHeartbeats 2000000 in
theorem Step_811 (x0 x1 x2 x3 x4 x5 x6 x7 x8 x9 : Int) (w : World) (h0 : x0 ≠ 0) (h2 : x2 ≠ 0) :
    Calls Try.prog 9 #[.int .i64 8, .agg (instL x0 x1 x2 x3 x4 x5 x6 x7 x8 x9).toArray] w fun e w' => e = .returned (.agg (instL x0 0 1 x3 x4 x5 x6 x7 x8 x9).toArray) ∧ Below w.heap.size w w' := by
  have b0 : (x0 != 0) = true := bne_iff_ne.2 h0
  have b2 : (x2 != 0) = true := bne_iff_ne.2 h2
  have hB0 := fun o1 => Aside0.mk (((Blk.Is.new w 24 (instL x0 x1 x2 x3 x4 x5 x6 x7 x8 x9)).alloc o1).alloc (.map #[] 0))
  have hB1 : ∀ o1 : Obj, Aside0 (Blk.Is (((w.alloc o1).alloc (.cells (instL 0 0 0 0 0 0 0 0 0 0).toArray 24)).alloc (.map #[] 0)) (w.heap.size + 1) 24 (instL 0 0 0 0 0 0 0 0 0 0)) := fun o1 => ⟨by
    have := (Blk.Is.new (w.alloc o1) 24 (instL 0 0 0 0 0 0 0 0 0 0)).alloc (.map #[] 0)
    rwa [show (w.alloc o1).heap.size = w.heap.size + 1 from by simp] at this⟩
  unfold instL at *
  have hmk := fun w => run_makeMap (P := Try.prog) 73 w
  have bk := Maps.bool_keyed (P := Try.prog) Try.underlying4
  have hmade : ∀ o1 o2 : Obj, Aside0 ((((w.alloc o1).alloc o2).alloc (.map #[] 0)).ownsMap Try.prog 4 (plainElem Try.prog 3) (w.heap.size + 1 + 1) 0 (.map [] : DataW Unit)) := fun o1 o2 => ⟨by
    have := World.ownsMap_made (H := Unit) ((w.alloc o1).alloc o2) Try.prog 4 (plainElem Try.prog 3)
    rwa [show ((w.alloc o1).alloc o2).heap.size = w.heap.size + 1 + 1 from by simp] at this⟩
  have hi : (Try.prog.info? 24).map (·.size) = some 10 := by kernel_rfl
  go_enter Try.func9, Try.ntmps9
  go_wp2_with first
    | (refine insert_own _ rfl (.tmp 8) (.const (.bool true)) (.const (.int .i64 1)) 73 rfl 4 3 bk Try.underlying73 (w.heap.size + 1 + 1) 0 (.map []) rfl (hmade _ _).out (by decide) (.bool true) (.int .i64 1) (.bool true) rfl rfl rfl (.lit (.int .i64 1)) rfl ?_; intro w1 ho1 hg1)
    | (refine insert_own _ rfl (.tmp 8) (.const (.bool false)) (.const (.int .i64 0)) 73 rfl 4 3 bk Try.underlying73 (w.heap.size + 1 + 1) 1 _ rfl ho1 (by decide) (.bool false) (.int .i64 0) (.bool false) rfl rfl rfl (.lit (.int .i64 0)) rfl ?_; intro w2 ho2 hg2; have B0 := Aside0.mk (((hB0 _).out.grown hg1 (by intro e; injection e with e; omega)).grown hg2 (by intro e; injection e with e; omega)); have B1 := Aside0.mk (((hB1 _).out.grown hg1 (by intro e; injection e with e; omega)).grown hg2 (by intro e; injection e with e; omega)); have HM := Aside0.mk ho2; have HBe := Aside0.mk (below_two hg1 hg2); clear ho1 ho2 hg1 hg2 hmade hmk hB0 hB1 bk)
  have c0 := B0.out.cell (i := 0) (v := .int .i64 x0) rfl
  have c2 := B0.out.cell (i := 2) (v := .int .i64 x2) rfl
  go_region
  clear c0 c2
  simp only [Exit.then]
  go_at_K
  replace HBe := Aside0.mk (below_drew HBe.out)
  have l1 := pair_look HM.out.drew
  have l2 := fun (u : Value) => pair_look (HM.out.kept (grown_cell (b := w.heap.size) (i := 1) u) (by intro e; injection e with e; omega)).drew
  have c1 := B0.out.cell (i := 1) (v := .int .i64 x1) rfl
  have f1 := B0.out.free 1
  have c2 := fun (u : Value) => (B0.out.set 1 u).cell (i := 2) (v := .int .i64 x2) rfl
  have f2 := fun (u : Value) => (B0.out.set 1 u).free 2
  go_wp2_with first
    | ((with_reducible refine gate_dst (N := 47) rfl ?_); refine wpList_load_row rfl 24 (.tmp 3) rfl w.heap.size rfl 24 _ (0, 0) _ ((B0.out.set 1 _).set 2 _) Try.underlying24 rfl (by rw [hi]; rfl) ?_)
    | ((with_reducible refine gate_store (t := 24) (p := 4) (v := .tmp 47) rfl ?_); refine wpList_store_row rfl 24 (.tmp 4) (.tmp 47) rfl (w.heap.size + 1) _ rfl rfl 24 _ ((B1.out.other (b2 := w.heap.size) 1 _ (by omega)).other (b2 := w.heap.size) 2 _ (by omega)) (by rw [hi]; rfl) rfl (by kernel_rfl) ?_)
  refine bodyPost_ret (results_cell_row rfl _ _ (w.heap.size + 1) 24 _ (0, 0) _ rfl (setRow_heap _ _ (instL 0 0 0 0 0 0 0 0 0 0).toArray _ _ _ ?hh) Try.underlying24 rfl ?hi) rfl ?hp
  case hh => exact (B1.out.other (b2 := w.heap.size) 1 _ (by omega)).other (b2 := w.heap.size) 2 _ (by omega)
  case hi => (rw [hi]; rfl)
  case hp => exact ⟨rfl, below_setRow ((HBe.out.setCell (p := ⟨w.heap.size, 1, none⟩) (Nat.le_refl _) _).setCell (p := ⟨w.heap.size, 2, none⟩) (Nat.le_refl _) _) (by omega) _⟩
set_option maxHeartbeats 2000000 in
theorem Step_other (kind x0 x1 x2 x3 x4 x5 x6 x7 x8 x9 : Int) (w : World) (hk : kind ≠ 7) (hk8 : kind ≠ 8) :
    Calls Try.prog 9 #[.int .i64 kind, .agg (instL x0 x1 x2 x3 x4 x5 x6 x7 x8 x9).toArray] w fun e w' => e = .returned (.agg (instL x0 x1 x2 x3 x4 x5 x6 x7 x8 x9).toArray) ∧ Below w.heap.size w w' := by
  have hB0 := fun o1 => Aside0.mk (((Blk.Is.new w 24 (instL x0 x1 x2 x3 x4 x5 x6 x7 x8 x9)).alloc o1).alloc (.map #[] 0))
  have hB1 : ∀ o1 : Obj, Aside0 (Blk.Is (((w.alloc o1).alloc (.cells (instL 0 0 0 0 0 0 0 0 0 0).toArray 24)).alloc (.map #[] 0)) (w.heap.size + 1) 24 (instL 0 0 0 0 0 0 0 0 0 0)) := fun o1 => ⟨by
    have := (Blk.Is.new (w.alloc o1) 24 (instL 0 0 0 0 0 0 0 0 0 0)).alloc (.map #[] 0)
    rwa [show (w.alloc o1).heap.size = w.heap.size + 1 from by simp] at this⟩
  unfold instL at *
  have hmk := fun w => run_makeMap (P := Try.prog) 73 w
  have bk := Maps.bool_keyed (P := Try.prog) Try.underlying4
  have hmade : ∀ o1 o2 : Obj, Aside0 ((((w.alloc o1).alloc o2).alloc (.map #[] 0)).ownsMap Try.prog 4 (plainElem Try.prog 3) (w.heap.size + 1 + 1) 0 (.map [] : DataW Unit)) := fun o1 o2 => ⟨by
    have := World.ownsMap_made (H := Unit) ((w.alloc o1).alloc o2) Try.prog 4 (plainElem Try.prog 3)
    rwa [show ((w.alloc o1).alloc o2).heap.size = w.heap.size + 1 + 1 from by simp] at this⟩
  have hi : (Try.prog.info? 24).map (·.size) = some 10 := by kernel_rfl
  go_enter Try.func9, Try.ntmps9
  go_wp2_with first
    | (refine insert_own _ rfl (.tmp 8) (.const (.bool true)) (.const (.int .i64 1)) 73 rfl 4 3 bk Try.underlying73 (w.heap.size + 1 + 1) 0 (.map []) rfl (hmade _ _).out (by decide) (.bool true) (.int .i64 1) (.bool true) rfl rfl rfl (.lit (.int .i64 1)) rfl ?_; intro w1 ho1 hg1)
    | (refine insert_own _ rfl (.tmp 8) (.const (.bool false)) (.const (.int .i64 0)) 73 rfl 4 3 bk Try.underlying73 (w.heap.size + 1 + 1) 1 _ rfl ho1 (by decide) (.bool false) (.int .i64 0) (.bool false) rfl rfl rfl (.lit (.int .i64 0)) rfl ?_; intro w2 ho2 hg2; have B0 := Aside0.mk (((hB0 _).out.grown hg1 (by intro e; injection e with e; omega)).grown hg2 (by intro e; injection e with e; omega)); have B1 := Aside0.mk (((hB1 _).out.grown hg1 (by intro e; injection e with e; omega)).grown hg2 (by intro e; injection e with e; omega)); have HM := Aside0.mk ho2; have HBe := Aside0.mk (below_two hg1 hg2); clear ho1 ho2 hg1 hg2 hmade hmk hB0 hB1 bk)
  have c0 := B0.out.cell (i := 0) (v := .int .i64 x0) rfl
  have c2 := B0.out.cell (i := 2) (v := .int .i64 x2) rfl
  go_region
  clear c0 c2
  simp only [Exit.then]
  go_at_K
  replace HBe := Aside0.mk (below_drew HBe.out)
  go_wp2_with first
    | ((with_reducible refine gate_dst (N := 19) rfl ?_); refine wpList_load_row rfl 24 (.tmp 3) rfl w.heap.size rfl 24 _ (0, 0) _ B0.out Try.underlying24 rfl (by rw [hi]; rfl) ?_)
    | ((with_reducible refine gate_store (t := 24) (p := 4) (v := .tmp 19) rfl ?_); refine wpList_store_row rfl 24 (.tmp 4) (.tmp 19) rfl (w.heap.size + 1) _ rfl rfl 24 _ B1.out (by rw [hi]; rfl) rfl (by kernel_rfl) ?_)
  refine bodyPost_ret (results_cell_row rfl _ _ (w.heap.size + 1) 24 _ (0, 0) _ rfl (setRow_heap _ _ (instL 0 0 0 0 0 0 0 0 0 0).toArray _ _ _ ?hh) Try.underlying24 rfl ?hi) rfl ?hp
  case hh => exact B1.out
  case hi => (rw [hi]; rfl)
  case hp => exact ⟨rfl, below_setRow HBe.out (by omega) _⟩
end Go.Proofs.Ytohdabkhafcdkaa
