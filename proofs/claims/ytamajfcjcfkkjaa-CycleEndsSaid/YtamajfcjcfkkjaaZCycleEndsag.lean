/- Printed by a program of this session (wip/pg.py, over the print of the kit): functions, their Lean twins, and the proofs that the calls come to them; each under the conditions that it names. -/
import Derived.Laws.CopyOwn
import Derived.Test.YtamajfcjcfkkjaaZCycleEndsac
import Derived.Test.YtamajfcjcfkkjaaZCycleEndsad
import Derived.Test.YtamajfcjcfkkjaaZCycleEndsae
import Derived.Test.YtamajfcjcfkkjaaZCycleEndsaf
section
/- Behind a region that draws: its frame written out, slot by slot. No conditions. -/
namespace Go.Proofs.Ytamajfcjcfkkjaa.Reg
open Go Go.RowKit Go.Proofs.YtamajfcjcfkkjaaW.PrintWords Go.Proofs.YtamajfcjcfkkjaaW.PrintLast
/-- The slots of D filled out of g. -/
def puts (g : Tmp → Value) : List (Option Tmp) → Act → Act
  | [], a => a
  | none :: D, a => puts g D a
  | some t :: D, a => puts g D (a.put (some t) (g t))
theorem puts_defers (g : Tmp → Value) : ∀ D a, (puts g D a).defers = a.defers
  | [], _ => rfl
  | none :: D, a => puts_defers g D a
  | some t :: D, a => (puts_defers g D _).trans (by simp [Act.put])
theorem puts_size (g : Tmp → Value) : ∀ D a, (puts g D a).tmps.size = a.tmps.size
  | [], _ => rfl
  | none :: D, a => puts_size g D a
  | some t :: D, a => (puts_size g D _).trans (by simp [Act.put])
theorem puts_out (g : Tmp → Value) : ∀ D a t, some t ∉ D → (puts g D a).tmps[t]? = a.tmps[t]?
  | [], _, _, _ => rfl
  | none :: D, a, t, h => puts_out g D a t (fun h' => h (List.mem_cons_of_mem _ h'))
  | some u :: D, a, t, h => by
    have hne : u ≠ t := fun e => h (by rw [e]; exact List.mem_cons_self)
    refine (puts_out g D _ t (fun h' => h (List.mem_cons_of_mem _ h'))).trans ?_
    simp [Act.put, Array.getElem?_setIfInBounds_ne hne]
theorem puts_in (g : Tmp → Value) : ∀ D a t, some t ∈ D → t < a.tmps.size → (puts g D a).tmps[t]? = some (g t)
  | [], _, _, h, _ => by cases h
  | none :: D, a, t, h, hs => puts_in g D a t (by simpa using h) hs
  | some u :: D, a, t, h, hs => by
    show (puts g D (a.put (some u) (g u))).tmps[t]? = some (g t)
    by_cases hD : some t ∈ D
    · exact puts_in g D _ t hD (by simpa [Act.put] using hs)
    · have hu : u = t := by
        rcases List.mem_cons.1 h with h | h
        · exact (Option.some.inj h).symm
        · exact absurd h hD
      subst hu
      rw [puts_out g D _ u hD]
      simp [Act.put, hs]
/-- The frame that the region leaves. -/
theorem RegI.frame {D : List (Option Tmp)} {S : Nat → World → Value → Prop} {a0 : Act} {w0 : World} {b : Nat → Bool} {a : Act} {w : World} (h : RegI D S a0 w0 b a w) : a = puts (fun t => a.tmps.getD t undef) D a0 := by
  have h1 : a.tmps = (puts (fun t => a.tmps.getD t undef) D a0).tmps := by
    apply Array.ext_getElem?
    intro t
    by_cases hD : some t ∈ D
    · by_cases hs : t < a0.tmps.size
      · rw [puts_in _ D a0 t hD hs]
        have hs' : t < a.tmps.size := by rw [h.size]; exact hs
        simp [Array.getD_eq_getD_getElem?, hs']
      · rw [Array.getElem?_eq_none (by rw [h.size]; omega), Array.getElem?_eq_none (by rw [puts_size]; omega)]
    · rw [puts_out _ D a0 t hD, h.elder t hD]
  have h2 : a.defers = (puts (fun t => a.tmps.getD t undef) D a0).defers := by rw [puts_defers, h.defers]
  generalize puts (fun t => a.tmps.getD t undef) D a0 = c at h1 h2
  cases a; cases c
  simp only at h1 h2
  rw [h1, h2]
theorem getD_of {a : Act} {t : Tmp} {v : Value} (h : a.tmps[t]? = some v) : a.tmps.getD t undef = v := by simp [Array.getD_eq_getD_getElem?, h]
end Go.Proofs.Ytamajfcjcfkkjaa.Reg
end

section
/- More words for regions that draw and store: steps that read, a call of a value, a store; no conditions. -/
namespace Go.Proofs.Ytamajfcjcfkkjaa.Reg
open Go Go.RowKit Go.Proofs.YtamajfcjcfkkjaaW.PrintWords Go.Proofs.YtamajfcjcfkkjaaW.PrintLast
theorem eval_tmp {a : Act} {t : Tmp} {v : Value} (h : a.tmps[t]? = some v) : a.eval (.tmp t) = v := by simp [Act.eval, Array.getD_eq_getD_getElem?, h]
theorem ZStep.of_f {P : Program} {ops : Array Oper} {Q : Exit → Act → World → Prop} {B : List Nat} {D : List (Option Tmp)} {S : Nat → World → Value → Prop} {l : List (Nat × (World → Prop))} {z0 F : World → Prop} {gs : List Nat} {a0 : Act} {wb : World} {i : Nat} (c : Nat)
    (hz0 : MonoZ z0) (hm : ∀ c ∈ l, MonoZ c.2) (hne : ∀ c ∈ l, c.1 ≠ i) (hF : ∀ b w, b c = false → Zc l z0 b w → F w) (hc : ((List.range ops.size).contains c && (B.getD c 0).testBit i) = true)
    (h : ∀ a w, F w → Below wb.heap.size wb w → a.tmps.size = a0.tmps.size → (∀ t, some t ∉ D → a.tmps[t]? = a0.tmps[t]?) →
      (∀ (j : Nat) (t : Tmp), (B.getD i 0).testBit j = true → D[j]? = some (some t) → ∃ v, a.tmps[t]? = some v ∧ S j w v) →
      ∃ oi, ops[i]? = some oi ∧ ∀ K : Act → World → Prop, Shut (∀ v w', Below w.heap.size w w' → S i w' v → K (a.put oi.dst v) w') →
        if Region.wanted oi (yielded ops a.tmps) = true then Oper.wp P oi a w K Q else K (a.put oi.dst undef) w) : ZStep P ops Q B D S (Zc l z0) gs a0 wb i := by
  intro b a w hb hz hs hel hi hup hoff hon
  obtain ⟨oi, hoi, hK⟩ := h a w (hF b w (hoff c hc) hz) hb hs hel hon
  exact ⟨oi, hoi, fun K hS => hK K (fun v w' hbw hsi => hS.out v w' (hb.trans (hbw.mono hb.size)) (KeepL.of_below gs hbw) (Zc.step hz0 hbw hm hne hz) hsi)⟩
theorem goesv_ {P : Program} {ops : Array Oper} {Q : Exit → Act → World → Prop} {oi : Oper} {N : Option Tmp} {a : Act} {w : World} {K : Act → World → Prop} {f : FuncId} {fn : Func} {t : Tmp} {ts : Array TypeId} (hf : P.funcs[f]? = some fn) (hname : (fn.name == "runtime.NumGoroutine") = false) (hb : fn.body.isSome = true) (caps : Array Value)
    (hw : Region.wanted oi (yielded ops a.tmps) = true) (hN : oi.dst = N) (hop : oi.op = .call { callee := .value (.tmp t), args := #[], argTypes := ts }) (hv : a.eval (.tmp t) = .func (.func f) #[] caps)
    (h : Calls P f caps w fun e w' => ∃ v, e = .returned v ∧ K (a.put N v) w') : if Region.wanted oi (yielded ops a.tmps) = true then Oper.wp P oi a w K Q else K (a.put N undef) w := by
  refine call_ f caps hw hN ?_ h
  have he := enters_ hf hname hb caps w
  unfold execOp
  simp [hop, resolve, Deferred.ofValue, invoke, hv, he]
theorem skipP_ {P : Program} {Q : Exit → Act → World → Prop} {oi : Oper} {a : Act} {w w1 : World} {K : Act → World → Prop} (hN : oi.dst = none) (hrun : (execOp a.eval oi).run P w = .ok .skip w1) (h : K a w1) : Oper.wp P oi a w K Q := by
  unfold Oper.wp
  rw [hrun]
  show K (a.put oi.dst undef) w1
  rw [hN]
  exact h
end Go.Proofs.Ytamajfcjcfkkjaa.Reg
end

section
/- What stands while cycle.Begin fills its rows. -/
namespace Go.Proofs.Ytamajfcjcfkkjaa.Given
open Go Go.RowKit Go.Proofs.Ytamajfcjcfkkjaa.PSt Go.Proofs.Ytamajfcjcfkkjaa.RPure Go.Proofs.YtamajfcjcfkkjaaW.PrintWords Go.Proofs.YtamajfcjcfkkjaaW.PrintLast Go.Proofs.YtamajfcjcfkkjaaW.PrintMore
set_option linter.unusedVariables false
set_option linter.unusedSimpArgs false
abbrev k32 := Kd.slice 3 (Kd.int .i64)
theorem below_both {W w : World} (hB : Below W.heap.size W w) {g t : Nat} {cs : Array Value} (hg : W.heap[g]? = some (.cells cs t (0, 0))) (i : Nat) (u : Value) : Below (W.setCell ⟨g, i, none⟩ u).heap.size (W.setCell ⟨g, i, none⟩ u) (w.setCell ⟨g, i, none⟩ u) := by
  have hs : (W.setCell ⟨g, i, none⟩ u).heap.size = W.heap.size := by simp [World.setCell]
  have hs2 : (w.setCell ⟨g, i, none⟩ u).heap.size = w.heap.size := by simp [World.setCell]
  refine ⟨hB.os, hB.tape, hB.output, by rw [hs, hs2]; exact hB.size, fun k hk => ?_⟩
  rw [hs] at hk
  by_cases e : k = g
  · subst e
    have h1 := blk_set hg i u
    have h2 := blk_set ((hB.block _ hk).trans hg) i u
    rw [h1, h2]
  · rw [Below.heap_setCell _ _ _ k e, Below.heap_setCell _ _ _ k e]
    exact hB.block k hk
theorem setCell_self {W : World} {g t i : Nat} {cs : Array Value} {u : Value} (hg : W.heap[g]? = some (.cells cs t (0, 0))) (hi : cs[i]? = some u) : Below W.heap.size (W.setCell ⟨g, i, none⟩ u) W := by
  have hs : (W.setCell ⟨g, i, none⟩ u).heap.size = W.heap.size := by simp [World.setCell]
  refine ⟨rfl, rfl, rfl, by rw [hs]; exact Nat.le_refl _, fun k hk => ?_⟩
  by_cases e : k = g
  · subst e
    rw [blk_set hg i u, hg]
    obtain ⟨h1, h2⟩ := Array.getElem?_eq_some_iff.1 hi
    subst h2
    rw [Array.setIfInBounds_def, dif_pos h1, Array.set_getElem_self]
  · rw [Below.heap_setCell _ _ _ k e]
theorem alloc_size (w : World) (o : Obj) : (w.alloc o).heap.size = w.heap.size + 1 := by show (w.heap.push o).size = _; exact Array.size_push ..
theorem alloc_get (w : World) (o : Obj) : (w.alloc o).heap[w.heap.size]? = some o := by show (w.heap.push o)[w.heap.size]? = _; exact Array.getElem?_push_size ..
theorem three (w : World) (o1 o2 o3 : Obj) : ∃ W0, W0 = ((w.alloc o1).alloc o2).alloc o3 ∧ W0.heap.size = w.heap.size + 3 ∧ Below w.heap.size w W0 ∧ W0.heap[w.heap.size]? = some o1 ∧ W0.heap[w.heap.size + 1]? = some o2 ∧ W0.heap[w.heap.size + 2]? = some o3 := by
  have z1 : (w.alloc o1).heap.size = w.heap.size + 1 := alloc_size _ _
  have z2 : ((w.alloc o1).alloc o2).heap.size = w.heap.size + 2 := by rw [alloc_size, alloc_size]
  have z3 : (((w.alloc o1).alloc o2).alloc o3).heap.size = w.heap.size + 3 := by rw [alloc_size, alloc_size, alloc_size]
  refine ⟨_, rfl, z3, (((Below.refl _ _).alloc (Nat.le_refl _) _).alloc (by omega) _).alloc (by omega) _, ?_, ?_, ?_⟩
  · rw [Below.heap_alloc _ _ _ (by omega), Below.heap_alloc _ _ _ (by omega)]; exact alloc_get _ _
  · rw [Below.heap_alloc _ _ _ (by omega), ← z1]; exact alloc_get _ _
  · rw [← z2]; exact alloc_get _ _
theorem row_new (w : World) (cs ds : Array Value) (t : TypeId) : ∃ W, W = (w.alloc (.cells cs t)).setRow w.heap.size ds ∧ Below w.heap.size w W ∧ W.heap[w.heap.size]? = some (.cells ds t (0, 0)) ∧ W.heap.size = w.heap.size + 1 := by
  have hz : ((w.alloc (.cells cs t)).setRow w.heap.size ds).heap.size = w.heap.size + 1 := by simp only [World.setRow, Array.size_modify]; exact alloc_size _ _
  have h2 : (w.alloc (.cells cs t)).heap[w.heap.size]? = some (.cells cs t (0, 0)) := alloc_get _ _
  exact ⟨_, rfl, below_setRow ((Below.refl _ _).alloc (Nat.le_refl _) _) (Nat.le_refl _) _, setRow_heap _ _ _ _ _ _ h2, hz⟩
structure BB (w : World) (Ai : Option Addr) (ci : Nat) (L : List Int) (v0 v1 : Value) (now f : Int) (B : LI) (b9 : Nat) (V : LL) (n : Nat) (W : World) : Prop where
  below : Below w.heap.size w W
  h6 : W.heap[w.heap.size + 1]? = some (.cells #[.slice Ai L.length ci] 32 (0, 0))
  h8 : W.heap[w.heap.size + 2]? = some (.cells #[.slice none 0 0, .slice none 0 0, .int .i64 0, .int .i64 0] 31 (0, 0))
  h9 : W.heap[b9]? = some (.cells #[v0, v1, .int .i64 now, .int .i64 f] 31 (0, 0))
  h11 : W.heap[b9 + 1]? = some (.cells #[.int .i64 (n : Int)] 3 (0, 0))
  s : Kd.S k32 32 W (w.heap.size + 3) (fun k => k < b9) v0 V
  r : Kd.R k69 69 W (w.heap.size + 3) (fun k => k < b9) v1 B
  lt : w.heap.size + 3 ≤ b9
  nle : n ≤ L.length
section
variable {w W W' : World} {Ai : Option Addr} {ci : Nat} {L : List Int} {v0 v1 : Value} {now f : Int} {B : LI} {b9 : Nat} {V : LL} {n : Nat}
theorem BB.step (h : BB w Ai ci L v0 v1 now f B b9 V n W) (hb : Below W.heap.size W W') : BB w Ai ci L v0 v1 now f B b9 V n W' :=
  ⟨h.below.trans (hb.mono h.below.size), (hb.block _ (blk_lt h.h6)).trans h.h6, (hb.block _ (blk_lt h.h8)).trans h.h8, (hb.block _ (blk_lt h.h9)).trans h.h9, (hb.block _ (blk_lt h.h11)).trans h.h11, Kd.S_below h.s hb, Kd.R_below h.r hb, h.lt, h.nle⟩
theorem BB.next (h : BB w Ai ci L v0 v1 now f B b9 V n W) (m : Nat) (hm : m ≤ L.length) : BB w Ai ci L v0 v1 now f B b9 V m (W.setCell ⟨b9 + 1, 0, none⟩ (.int .i64 (m : Int))) := by
  have hlt := h.lt
  exact ⟨h.below.setCell (by show w.heap.size ≤ b9 + 1; omega) _, blk_far h.h6 (by show _ ≠ b9 + 1; omega) _, blk_far h.h8 (by show _ ≠ b9 + 1; omega) _, blk_far h.h9 (by show _ ≠ b9 + 1; omega) _, blk_put h.h11 0 _ rfl, Kd.S_far h.s (fun k hk => by show k ≠ b9 + 1; omega) _, Kd.R_far h.r (fun k hk => by show k ≠ b9 + 1; omega) _, hlt, hm⟩
theorem BB.elem (h : BB w Ai ci L v0 v1 now f B b9 V n W) (i : Nat) (hi : i < V.length) (k : Nat) (hk : k < V[i].length) :
    ∃ ad c g c2 cells, v0 = .slice (some ad) V.length c ∧ W.cell? (ad.add i) = some (.slice (some ⟨g, 0, none⟩) V[i].length c2) ∧ w.heap.size + 3 ≤ g ∧ g < b9 ∧ w.heap.size + 3 ≤ ad.block ∧ ad.block < b9 ∧ ad.block ≠ g ∧ V[i].length ≤ c2 ∧
      W.heap[g]? = some (.cells cells 3 (0, 0)) ∧ W.cell? ⟨g, k, none⟩ = some (.int .i64 V[i][k]) ∧ ∀ x : Int, BB w Ai ci L v0 v1 now f B b9 (V.set i (V[i].set k x)) n (W.setCell ⟨g, k, none⟩ (.int .i64 x)) := by
  obtain ⟨g0, cap, rfl, hg0, hl0, cells0, hc0⟩ := Kd.S_form h.s (by omega)
  obtain ⟨oki, ce, hcl, hM, hcc, hok, hbk⟩ := Kd.S_borrow h.s [] (i : Int) (by omega) (by omega)
  have hx : V.getD (i : Int).toNat [] = V[i] := by rw [Int.toNat_natCast, List.getD_eq_getElem?_getD, List.getElem?_eq_getElem hi]; rfl
  rw [hx] at hM
  obtain ⟨ve, rfl, ge⟩ := hM
  obtain ⟨g, c2, rfl, hg, hgl, cells, hh⟩ := Kd.R_form ge (by omega)
  have hv := hcc 0 _ rfl
  rw [Nat.add_zero, show k32.sz = 1 from rfl, Nat.mul_one, Int.toNat_natCast] at hv
  have hgok := hok g (ge.1 _ rfl)
  have hne : g0 ≠ g := fun e => hgok.2 (by rw [e]; rfl)
  obtain ⟨hcell, _⟩ := Kd.R_celln (0 : Int) ge (k : Int) (by omega) (by omega)
  rw [Int.toNat_natCast] at hcell
  have hrd : rdOf (0 : Int) V[i] (k : Int) = V[i][k] := by unfold rdOf; rw [Int.toNat_natCast, List.getD_eq_getElem?_getD, List.getElem?_eq_getElem hk]; rfl
  rw [hrd] at hcell
  have hg0ok : g0 < b9 := h.s.elim fun _ hq => hq.1 g0 rfl
  have hlt := h.lt
  refine ⟨_, _, g, c2, cells, rfl, hv, hg, hgok.1, hg0, hg0ok, hne, (Kd.R_reads' ge).2.1, hh, hcell, fun x => ?_⟩
  have HP := Kd.R_putg ge (k : Int) x
  rw [Int.toNat_natCast] at HP
  refine ⟨h.below.setCell (by show w.heap.size ≤ g; omega) _, blk_far h.h6 (by show _ ≠ g; omega) _, blk_far h.h8 (by show _ ≠ g; omega) _, blk_far h.h9 (by show _ ≠ g; have := hgok.1; omega) _, blk_far h.h11 (by show _ ≠ g; have := hgok.1; omega) _, ?_, ?_, hlt, h.nle⟩
  · have := hbk HP.2 (fun k_ e_ => by injection e_ with e_; subst e_; exact ge.1 _ rfl) (Kd.M_row HP.1)
    rw [Int.toNat_natCast] at this
    exact this
  · exact Kd.R_set h.r hh (by decide) k _
end
theorem rdV (v : List S60) (i : Nat) (h : i < v.length) : rd_T60 v (i : Int) = v[i] := by unfold rd_T60; rw [Int.toNat_natCast, List.getD_eq_getElem?_getD, List.getElem?_eq_getElem h]; rfl
/-- A row's inputs. -/
def fillF (t : Int) (L : List Int) : Nat → List Int → List Int × Nat
  | n, [] => ([], n)
  | n, _ :: r => (wrapF t (nextF L n).1 :: (fillF t L (nextF L n).2 r).1, (fillF t L (nextF L n).2 r).2)
def beginV (L : List Int) : Nat → List S60 → LL → LL
  | n, x :: v, l :: V => if x.f3 = 1 then (fillF x.f1 L n l).1 :: beginV L (fillF x.f1 L n l).2 v V else l :: beginV L n v V
  | _, _, V => V
def nowF (n dt : Int) : Int := wrap64 (mn n (wrap64 (1099511627776 - mx 0 (mn dt 1099511627776))) + mx 0 (mn dt 1099511627776))
theorem beginV_nil (L : List Int) (n : Nat) (v : List S60) : beginV L n v [] = [] := by cases v <;> rfl
theorem beginV_end (L : List Int) (n : Nat) (V : LL) : beginV L n [] V = V := by cases V <;> rfl
def Inv (L : List Int) (v : List S60) (V : LL) (j : Nat) (V' : LL) (m : Nat) : Prop := V'.length = V.length ∧ beginV L 0 v V = V'.take j ++ beginV L m (v.drop j) (V'.drop j)
theorem Inv.start (L : List Int) (v : List S60) (V : LL) : Inv L v V 0 V 0 := ⟨rfl, rfl⟩
theorem Inv.last {L : List Int} {v : List S60} {V V' : LL} {m : Nat} (h : Inv L v V v.length V' m) : V' = beginV L 0 v V := by rw [h.2, List.drop_length, beginV_end, List.take_append_drop]
theorem Inv.skip {L : List Int} {v : List S60} {V V' : LL} {j m : Nat} (h : Inv L v V j V' m) (hj : j < v.length) (hs : v[j].f3 ≠ 1 ∨ V'.length ≤ j) : Inv L v V (j + 1) V' m := by
  refine ⟨h.1, h.2.trans ?_⟩
  by_cases hV : j < V'.length
  · rw [List.drop_eq_getElem_cons hj, List.drop_eq_getElem_cons hV, beginV, if_neg (hs.resolve_right (by omega)), List.take_add_one (l := V'), List.getElem?_eq_getElem hV, List.append_assoc]
    rfl
  · have e1 : V'.drop j = [] := List.drop_eq_nil_of_le (by omega)
    have e2 : V'.drop (j + 1) = [] := List.drop_eq_nil_of_le (by omega)
    rw [e1, e2, beginV_nil, beginV_nil, List.take_of_length_le (by omega), List.take_of_length_le (by omega)]
theorem Inv.fill {L : List Int} {v : List S60} {V V' : LL} {j m : Nat} (h : Inv L v V j V' m) (hj : j < v.length) (hV : j < V'.length) (hs : v[j].f3 = 1) {R : List Int} {q : Nat} (hf : fillF v[j].f1 L m V'[j] = (R, q)) : Inv L v V (j + 1) (V'.set j R) q := by
  refine ⟨by rw [List.length_set]; exact h.1, h.2.trans ?_⟩
  rw [List.drop_eq_getElem_cons hj, List.drop_eq_getElem_cons hV, beginV, if_pos hs, hf]
  rw [List.take_add_one, List.getElem?_set_self hV, List.take_set_of_le (Nat.le_refl _), List.drop_set_of_lt (by omega)]
  simp
def FInv (t : Int) (L : List Int) (m : Nat) (R0 : List Int) (k : Nat) (R : List Int) (q : Nat) : Prop := R.length = R0.length ∧ fillF t L m R0 = (R.take k ++ (fillF t L q (R.drop k)).1, (fillF t L q (R.drop k)).2)
theorem FInv.start (t : Int) (L : List Int) (m : Nat) (R0 : List Int) : FInv t L m R0 0 R0 m := ⟨rfl, rfl⟩
theorem FInv.last {t : Int} {L : List Int} {m q : Nat} {R0 R : List Int} (h : FInv t L m R0 R0.length R q) : fillF t L m R0 = (R, q) := by
  rw [h.2, ← h.1, List.drop_length, List.take_length]
  simp [fillF]
theorem FInv.step {t : Int} {L : List Int} {m q k : Nat} {R0 R : List Int} (h : FInv t L m R0 k R q) (hk : k < R.length) : FInv t L m R0 (k + 1) (R.set k (wrapF t (nextF L q).1)) (nextF L q).2 := by
  refine ⟨by rw [List.length_set]; exact h.1, h.2.trans ?_⟩
  rw [List.drop_eq_getElem_cons hk, fillF]
  rw [List.take_add_one, List.getElem?_set_self hk, List.take_set_of_le (Nat.le_refl _), List.drop_set_of_lt (by omega)]
  simp
section
variable {w W W' : World} {Ai : Option Addr} {ci : Nat} {L : List Int} {v0 v1 : Value} {now f : Int} {B : LI} {b9 : Nat} {V : LL} {n : Nat}
theorem BB.row {A2 : Option Addr} {N c2 : Nat} (h : BB w Ai ci L (.slice A2 N c2) v1 now f B b9 V n W) (i : Nat) (hi : i < V.length) : ∃ ad A0 c0, A2 = some ad ∧ W.cell? (ad.add i) = some (.slice A0 V[i].length c0) ∧ V[i].length ≤ 9223372036854775807 := by
  obtain ⟨rfl, _, hC⟩ := Kd.S_reads' h.s
  obtain ⟨ad, c, e, _, hK, hc⟩ := Kd.C_get hC [] (i : Int) (by omega) (by omega)
  rw [show V.getD (i : Int).toNat [] = V[i] by rw [Int.toNat_natCast, List.getD_eq_getElem?_getD, List.getElem?_eq_getElem hi]; rfl] at hK
  obtain ⟨A0, c0, rfl, l0, g0⟩ := hK
  refine ⟨ad, A0, c0, e, ?_, g0.2.1⟩
  have := hc 0 _ rfl
  rw [Int.toNat_natCast] at this
  simpa [Kd.slice] using this
theorem BB.len {A2 : Option Addr} {N c2 : Nat} (h : BB w Ai ci L (.slice A2 N c2) v1 now f B b9 V n W) : N = V.length := (Kd.S_reads' h.s).1
theorem BB.elem' {A2 : Option Addr} {N c2 : Nat} (h : BB w Ai ci L (.slice A2 N c2) v1 now f B b9 V n W) (i : Nat) (hi : i < V.length) (k : Nat) (hk : k < V[i].length) :
    ∃ ad g c3 cells, A2 = some ad ∧ W.cell? (ad.add i) = some (.slice (some ⟨g, 0, none⟩) V[i].length c3) ∧ w.heap.size + 3 ≤ g ∧ g < b9 ∧ w.heap.size + 3 ≤ ad.block ∧ ad.block < b9 ∧ ad.block ≠ g ∧ V[i].length ≤ c3 ∧
      W.heap[g]? = some (.cells cells 3 (0, 0)) ∧ W.cell? ⟨g, k, none⟩ = some (.int .i64 V[i][k]) ∧ ∀ x : Int, BB w Ai ci L (.slice A2 N c2) v1 now f B b9 (V.set i (V[i].set k x)) n (W.setCell ⟨g, k, none⟩ (.int .i64 x)) := by
  obtain ⟨ad, c, g, c3, cells, e, hr⟩ := h.elem i hi k hk
  injection e with e1 e2 e3
  exact ⟨ad, g, c3, cells, e1, hr⟩
end
theorem next_all {wo W0 : World} {Ai : Option Addr} {ci : Nat} {L : List Int} {v0 v1 : Value} {now f : Int} {B : LI} {b9 : Nat} {V : LL} {q : Nat} (h : BB wo Ai ci L v0 v1 now f B b9 V q W0) (GL : Kd.C (Kd.int .i64) wo Ai L.length L) (gs : List Nat) (hgs : b9 + 1 ∈ gs) (W : World) (hW : Below W0.heap.size W0 W) :
    Calls Try.prog 33 #[.pointer (some ⟨b9 + 1, 0, none⟩), .pointer (some ⟨wo.heap.size + 1, 0, none⟩)] W fun e w' => e = .returned (.int .i64 (nextF L q).1) ∧ Below wo.heap.size wo w' ∧ Reg.KeepL gs W w' ∧ Below (W0.setCell ⟨b9 + 1, 0, none⟩ (.int .i64 ((nextF L q).2 : Nat))).heap.size (W0.setCell ⟨b9 + 1, 0, none⟩ (.int .i64 ((nextF L q).2 : Nat))) w' := by
  have hlt := h.lt
  have h' := h.step hW
  refine (next_c L Ai ci q W (b9 + 1) (wo.heap.size + 1) h'.h11 h'.h6 (Kd.C_below GL h'.below) h.nle (by omega) ?_).mono ?_
  · rintro hq ad rfl
    obtain ⟨ad', e, k2⟩ := Kd.at_int GL (q : Int) (by omega) (by omega)
    obtain rfl : ad = ad' := Option.some.inj e
    have := World.block_lt_of_cell? wo _ k2
    rw [add_block] at this
    omega
  · rintro e w' ⟨rfl, ⟨rfl, hq⟩ | rfl⟩
    · refine ⟨rfl, h'.below, Reg.KeepL.of_below _ (Below.refl _ _), ?_⟩
      rw [hq]
      have hs : (W0.setCell ⟨b9 + 1, 0, none⟩ (.int .i64 (q : Int))).heap.size = W0.heap.size := by simp [World.setCell]
      rw [hs]
      exact (setCell_self h.h11 rfl).trans hW
    · refine ⟨rfl, h'.below.setCell (by show wo.heap.size ≤ b9 + 1; omega) _, ⟨by simp [World.setCell], fun i hi hn => Below.heap_setCell _ _ _ i (fun e => hn (by rw [e]; exact hgs))⟩, below_both hW h.h11 0 _⟩
end Go.Proofs.Ytamajfcjcfkkjaa.Given
end

section
/- cycle.Begin, walked by hand: any state at a scan's beginning, any inputs. -/
namespace Go.Proofs.Ytamajfcjcfkkjaa.Given
open Go Go.RowKit Go.Proofs.Ytamajfcjcfkkjaa.PSt Go.Proofs.Ytamajfcjcfkkjaa.RPure Go.Proofs.YtamajfcjcfkkjaaW.PrintWords Go.Proofs.YtamajfcjcfkkjaaW.PrintLast Go.Proofs.YtamajfcjcfkkjaaW.PrintMore
set_option linter.unusedVariables false
set_option linter.unusedSimpArgs false
theorem max2_mx (k k' : IntKind) (x y : Int) : Builtin.max2 (.int k x) (.int k' y) = pure (.int k (mx x y)) := max2_int k k' x y
theorem min2_mn (k k' : IntKind) (x y : Int) : Builtin.min2 (.int k x) (.int k' y) = pure (.int k (mn x y)) := min2_int k k' x y
attribute [local go_sem] max2_mx min2_mn max_two min_two max_three min_three max_four min_four
set_option maxHeartbeats 4000000 in
set_option maxRecDepth 100000 in
theorem begin_w (A0 A1 Av Ai : Option Addr) (c0 c1 cv ci : Nat) (v : List S60) (V : LL) (B : LI) (n f dt : Int) (L : List Int) (k : Nat) (wo : World)
    (gv : Kd.C k60 wo Av v.length v) (g0 : Kd.C (Kd.slice 3 (Kd.int .i64)) wo A0 V.length V) (l0 : V.length ≤ c0) (g1 : Kd.C k69 wo A1 B.length B) (l1 : B.length ≤ c1) (gL : Kd.C (Kd.int .i64) wo Ai L.length L) (hcl : state_Clone.f k V B n f = some (V, B, n, f)) :
    Calls Try.prog 13 #[.slice Av v.length cv, .agg #[.slice A0 V.length c0, .slice A1 B.length c1, .int .i64 n, .int .i64 f], .slice Ai L.length ci, .int .i64 dt] wo fun e w' => ∃ v0 v1 : Value, e = .returned (.agg #[v0, v1, .int .i64 (nowF n dt), .int .i64 f]) ∧ Kd.S (Kd.slice 3 (Kd.int .i64)) 32 w' wo.heap.size (fun _ => True) v0 (beginV L 0 v V) ∧ Kd.R k69 69 w' wo.heap.size (fun _ => True) v1 B ∧ Below wo.heap.size wo w' := by
  have hi4 : (Try.prog.info? 31).map (·.size) = some 4 := by kernel_rfl
  have hi5 : (Try.prog.info? 60).map (·.size) = some 5 := by kernel_rfl
  have mv := gv.2.1
  have CL := Aside0.mk (fun W (hb : Below wo.heap.size wo W) => state_Clone.calls k A0 c0 V A1 c1 B n f V B n f W (Kd.C_below g0 hb) l0 (Kd.C_below g1 hb) l1 hcl)
  have GV := Aside0.mk gv
  have GL := Aside0.mk gL
  clear gv g0 l0 g1 l1 gL hcl
  go_enter Try.func13, Try.ntmps13
  go_wp2_with fail
  obtain ⟨W0, hW0, s0, hB0, H5, H6, H8⟩ := three wo (.cells #[.slice A0 V.length c0, .slice A1 B.length c1, .int .i64 n, .int .i64 f] 31) (.cells #[.slice Ai L.length ci] 32) (.cells #[.slice none 0 0, .slice none 0 0, .int .i64 0, .int .i64 0] 31)
  rw [← hW0]
  clear hW0
  refine (CL.out W0 hB0).mono ?_
  rintro e w1 ⟨v0, v1, rfl, hS, hR, hb1⟩
  rw [s0] at hS hR hb1
  obtain ⟨A2, c2, rfl, _⟩ := Kd.S_reads hS
  obtain ⟨A3, c3, rfl, _⟩ := Kd.R_reads hR
  have hS1 := Kd.S_mono (ok' := fun k => k < w1.heap.size) (Kd.S_bound hS) (fun k hk => hk.2.2.1)
  have hR1 := Kd.R_mono (ok' := fun k => k < w1.heap.size) (Kd.R_bound hR) (fun k hk => hk.2.2.1)
  have T := Aside0.mk (show Below wo.heap.size wo w1 ∧ w1.heap[wo.heap.size]? = _ ∧ w1.heap[wo.heap.size + 1]? = _ ∧ w1.heap[wo.heap.size + 2]? = _ ∧ _ ∧ _ from ⟨hB0.trans (hb1.mono (by omega)), (hb1.block _ (by omega)).trans H5, (hb1.block _ (by omega)).trans H6, (hb1.block _ (by omega)).trans H8, hS1, hR1⟩)
  have hlt : wo.heap.size + 3 ≤ w1.heap.size := by rw [← s0]; exact hb1.size
  clear hS hR hS1 hR1 hb1 H5 H6 H8 hB0 s0 CL
  go_wp2_with ((with_reducible refine gate_store (t := 31) (p := 9) (v := .tmp 17) rfl ?_); refine wpList_store_row rfl 31 (.tmp 9) (.tmp 17) rfl w1.heap.size #[.slice A2 V.length c2, .slice A3 B.length c3, .int .i64 n, .int .i64 f] rfl rfl 31 _ (heap_alloc_new w1 _) (by rw [hi4]; rfl) rfl (by kernel_rfl) ?_; obtain ⟨W3, hw, hb, hn, hz⟩ := row_new w1 #[.slice none 0 0, .slice none 0 0, .int .i64 0, .int .i64 0] #[.slice A2 V.length c2, .slice A3 B.length c3, .int .i64 n, .int .i64 f] 31; rw [← hw]; have T3 := Aside0.mk (And.intro hb (And.intro hn hz)); have q2 : W3.cell? ⟨wo.heap.size, 2, none⟩ = some (.int .i64 n) := (blk_cell ((hb.block _ (blk_lt T.out.2.1)).trans T.out.2.1) 2).trans rfl; have q92 : W3.cell? ⟨w1.heap.size, 2, none⟩ = some (.int .i64 n) := (blk_cell hn 2).trans rfl; have f92 := blk_frozen hn 2; clear hb hn hz hw)
  have hz3 : W3.heap.size = w1.heap.size + 1 := T3.out.2.2
  simp only [hz3]
  obtain ⟨W4, hW4⟩ : ∃ W, W = (W3.setCell ⟨w1.heap.size, 2, none⟩ (.int .i64 (wrap64 (mn n (wrap64 (1099511627776 - mx 0 (mn dt 1099511627776))) + mx 0 (mn dt 1099511627776))))).alloc (.cells #[.int .i64 0] 3) := ⟨_, rfl⟩
  rw [← hW4]
  have HB0 : BB wo Ai ci L (.slice A2 V.length c2) (.slice A3 B.length c3) (nowF n dt) f B w1.heap.size V 0 W4 := by
    obtain ⟨t1, t2, t3, t4, t5, t6⟩ := T.out
    obtain ⟨u1, u2, u3⟩ := T3.out
    have hb3 : Below w1.heap.size w1 (W3.setCell ⟨w1.heap.size, 2, none⟩ (.int .i64 (nowF n dt))) := u1.setCell (Nat.le_refl _) _
    have hsz : (W3.setCell ⟨w1.heap.size, 2, none⟩ (.int .i64 (nowF n dt))).heap.size = w1.heap.size + 1 := by rw [← u3]; simp [World.setCell]
    have hb4 : Below w1.heap.size w1 W4 := by rw [hW4]; exact hb3.alloc (by show _ ≤ (W3.setCell ⟨w1.heap.size, 2, none⟩ (.int .i64 (nowF n dt))).heap.size; omega) _
    refine ⟨t1.trans (hb4.mono t1.size), (hb4.block _ (blk_lt t3)).trans t3, (hb4.block _ (blk_lt t4)).trans t4, ?_, ?_, Kd.S_below t5 hb4, Kd.R_below t6 hb4, hlt, Nat.zero_le _⟩
    · rw [hW4, Below.heap_alloc _ _ _ (by show _ < (W3.setCell ⟨w1.heap.size, 2, none⟩ (.int .i64 (nowF n dt))).heap.size; omega)]
      exact blk_put u2 2 _ rfl
    · rw [hW4, ← hsz]
      exact alloc_get _ _
  have HB := Aside0.mk HB0
  clear HB0 hW4 hz3 T T3 q2 q92 f92
  go_loopw [32] (fun x wr => ∃ (j : Nat) (V' : LL) (m : Nat), j ≤ v.length ∧ x = .int .i64 (j : Int) ∧ Aside0 (BB wo Ai ci L (.slice A2 V.length c2) (.slice A3 B.length c3) (nowF n dt) f B w1.heap.size V' m wr) ∧ Aside0 (Inv L v V j V' m)) (fun x _ => v.length - (intOf x).toNat)
  case atStart => exact ⟨0, V, 0, Nat.zero_le _, rfl, HB, ⟨Inv.start L v V⟩⟩
  case round =>
    clear HB
    obtain ⟨j, V', m, hj, rfl, HB, HI⟩ := hrel
    by_cases hjv : j < v.length
    · obtain ⟨ad, rfl, k0, k1, k2, k3, k4⟩ := at_T60 (Kd.C_below GV.out HB.out.below) (j : Int) (by omega) (by omega)
      rw [Int.toNat_natCast] at k0 k1 k2 k3 k4
      rw [rdV v j hjv] at k0 k1 k2 k3 k4
      obtain ⟨x, hx⟩ : ∃ x, x = v[j] := ⟨_, rfl⟩
      rw [← hx] at k0 k1 k2 k3 k4
      have HX := Aside0.mk hx
      clear hx
      have hlen : V'.length = V.length := HI.out.1
      have zs : (v.length : Int) = ((v.length : Nat) : Int) := rfl
      by_cases h3 : x.f3 = 1
      rotate_left
      · have H3 := Aside0.mk h3
        clear h3
        go_wp2_with ((with_reducible refine gate_store (t := 60) (p := 14) (v := .tmp 36) rfl ?_); refine wpList_store_row rfl 60 (.tmp 14) (.tmp 36) rfl wr.heap.size #[.string x.f0, .int .i64 x.f1, .int .i64 x.f2, .int .i64 x.f3, .int .i64 x.f4] rfl rfl 60 _ (heap_alloc_new wr _) (by rw [hi5]; rfl) rfl (by kernel_rfl) ?_; obtain ⟨W5, hw, hb, hn, hz⟩ := row_new wr #[.string ⟨#[]⟩, .int .i64 0, .int .i64 0, .int .i64 0, .int .i64 0] #[.string x.f0, .int .i64 x.f1, .int .i64 x.f2, .int .i64 x.f3, .int .i64 x.f4] 60; rw [← hw]; clear k0 k1 k2 k3 k4; have HB5 := Aside0.mk (HB.out.step hb); have H14 := Aside0.mk hn; have q3 : W5.cell? ⟨wr.heap.size, 3, none⟩ = some (.int .i64 x.f3) := (blk_cell hn 3).trans rfl; have q90 : W5.cell? ⟨w1.heap.size, 0, none⟩ = some (.slice A2 V.length c2) := (blk_cell HB5.out.h9 0).trans rfl; have h3 := H3.out; clear hb hn hz hw)
        refine ⟨⟨j + 1, V', m, by omega, by push_cast; rfl, HB5, ⟨HI.out.skip hjv (.inl (by rw [← HX.out]; exact h3))⟩⟩, ?_⟩
        rw [show intOf (.int .i64 ((j : Int) + 1)) = (j : Int) + 1 from rfl, show intOf (.int .i64 (j : Int)) = (j : Int) from rfl]
        omega
      have H3 := Aside0.mk h3
      clear h3
      by_cases hjV : j < V.length
      rotate_left
      · have hge : (j : Int) ≥ (V.length : Int) := by omega
        go_wp2_with ((with_reducible refine gate_store (t := 60) (p := 14) (v := .tmp 36) rfl ?_); refine wpList_store_row rfl 60 (.tmp 14) (.tmp 36) rfl wr.heap.size #[.string x.f0, .int .i64 x.f1, .int .i64 x.f2, .int .i64 x.f3, .int .i64 x.f4] rfl rfl 60 _ (heap_alloc_new wr _) (by rw [hi5]; rfl) rfl (by kernel_rfl) ?_; obtain ⟨W5, hw, hb, hn, hz⟩ := row_new wr #[.string ⟨#[]⟩, .int .i64 0, .int .i64 0, .int .i64 0, .int .i64 0] #[.string x.f0, .int .i64 x.f1, .int .i64 x.f2, .int .i64 x.f3, .int .i64 x.f4] 60; rw [← hw]; clear k0 k1 k2 k3 k4; have HB5 := Aside0.mk (HB.out.step hb); have H14 := Aside0.mk hn; have q3 : W5.cell? ⟨wr.heap.size, 3, none⟩ = some (.int .i64 x.f3) := (blk_cell hn 3).trans rfl; have q90 : W5.cell? ⟨w1.heap.size, 0, none⟩ = some (.slice A2 V.length c2) := (blk_cell HB5.out.h9 0).trans rfl; have h3 := H3.out; clear hb hn hz hw)
        refine ⟨⟨j + 1, V', m, by omega, by push_cast; rfl, HB5, ⟨HI.out.skip hjv (.inr (by omega))⟩⟩, ?_⟩
        rw [show intOf (.int .i64 ((j : Int) + 1)) = (j : Int) + 1 from rfl, show intOf (.int .i64 (j : Int)) = (j : Int) from rfl]
        omega
      have hge : ¬ ((j : Int) ≥ (V.length : Int)) := by omega
      obtain ⟨R0, hR0⟩ : ∃ R0, R0 = V'[j]'(by omega) := ⟨_, rfl⟩
      go_wp2_with ((with_reducible refine gate_store (t := 60) (p := 14) (v := .tmp 36) rfl ?_); refine wpList_store_row rfl 60 (.tmp 14) (.tmp 36) rfl wr.heap.size #[.string x.f0, .int .i64 x.f1, .int .i64 x.f2, .int .i64 x.f3, .int .i64 x.f4] rfl rfl 60 _ (heap_alloc_new wr _) (by rw [hi5]; rfl) rfl (by kernel_rfl) ?_; obtain ⟨W5, hw, hb, hn, hz⟩ := row_new wr #[.string ⟨#[]⟩, .int .i64 0, .int .i64 0, .int .i64 0, .int .i64 0] #[.string x.f0, .int .i64 x.f1, .int .i64 x.f2, .int .i64 x.f3, .int .i64 x.f4] 60; rw [← hw]; clear k0 k1 k2 k3 k4; have HB5 := Aside0.mk (HB.out.step hb); have H14 := Aside0.mk hn; have q3 : W5.cell? ⟨wr.heap.size, 3, none⟩ = some (.int .i64 x.f3) := (blk_cell hn 3).trans rfl; have q90 : W5.cell? ⟨w1.heap.size, 0, none⟩ = some (.slice A2 V.length c2) := (blk_cell HB5.out.h9 0).trans rfl; have h3 := H3.out; clear hb hn hz hw; obtain ⟨ad2, A0', c0', rfl, r0, mR⟩ := HB5.out.row j (by omega); rw [← hR0] at r0 mR; have HR0 := Aside0.mk hR0; clear hR0)
      clear r0 q3 q90 h3
      have hb14 : w1.heap.size + 1 < wr.heap.size := blk_lt HB.out.h11
      generalize wr.heap.size = b14 at hb14 H14 ⊢
      go_loopw [53] (fun y wr => ∃ (ix : Nat) (R : List Int) (q : Nat), ix ≤ R0.length ∧ y = .int .i64 (ix : Int) ∧ Aside0 (BB wo Ai ci L (.slice (some ad2) V.length c2) (.slice A3 B.length c3) (nowF n dt) f B w1.heap.size (V'.set j R) q wr) ∧ Aside0 (FInv x.f1 L m R0 ix R q) ∧ Aside0 (wr.heap[b14]? = some (.cells #[.string x.f0, .int .i64 x.f1, .int .i64 x.f2, .int .i64 x.f3, .int .i64 x.f4] 60 (0, 0)))) (fun y _ => R0.length - (intOf y).toNat)
      case atStart => exact ⟨0, R0, m, Nat.zero_le _, rfl, ⟨by rw [HR0.out, List.set_getElem_self]; exact HB5.out⟩, ⟨FInv.start _ _ _ _⟩, H14⟩
      case round =>
        clear HB5 H14
        obtain ⟨ix, R, q, hi, rfl, HB2, HF, H14⟩ := hrel
        by_cases hik : ix < R0.length
        · have hRl : R.length = R0.length := HF.out.1
          have hjs : j < (V'.set j R).length := by rw [List.length_set]; omega
          have hje : (V'.set j R)[j] = R := List.getElem_set_self hjs
          have hN := HB2.out.next (nextF L q).2 (next_le HB2.out.nle)
          obtain ⟨ad2', g, c4, cells, e2, hc, hg1, hg2, ha1, ha2, hne, hl4, hgh, hgc, hput⟩ := hN.elem' j hjs ix (by rw [hje]; omega)
          obtain rfl : ad2 = ad2' := Option.some.inj e2
          have hput2 := hput (wrapF x.f1 (nextF L q).1)
          rw [hje] at hc hl4 hput2
          rw [List.set_set] at hput2
          have hgb : w1.heap.size + 1 ≠ g := by omega
          obtain ⟨WR1, hWR1⟩ : ∃ W, W = wr.setCell ⟨w1.heap.size + 1, 0, none⟩ (.int .i64 ((nextF L q).2 : Int)) := ⟨_, rfl⟩
          rw [← hWR1] at hN hc hgh hgc hput hput2
          have z1 : WR1.heap.size = wr.heap.size := by rw [hWR1]; simp [World.setCell]
          obtain ⟨WR2, hWR2⟩ : ∃ W, W = WR1.setCell ⟨g, ix, none⟩ (.int .i64 (wrapF x.f1 (nextF L q).1)) := ⟨_, rfl⟩
          rw [← hWR2] at hput2
          have HP := Aside0.mk hput2
          have h14' : WR1.heap[b14]? = some (.cells #[.string x.f0, .int .i64 x.f1, .int .i64 x.f2, .int .i64 x.f3, .int .i64 x.f4] 60 (0, 0)) := by rw [hWR1]; exact blk_far H14.out (by show _ ≠ w1.heap.size + 1; omega) _
          have h14s : WR2.heap[b14]? = some (.cells #[.string x.f0, .int .i64 x.f1, .int .i64 x.f2, .int .i64 x.f3, .int .i64 x.f4] 60 (0, 0)) := by rw [hWR2]; exact blk_far h14' (by show _ ≠ g; omega) _
          have H14s := Aside0.mk h14s
          have hcF : wr.cell? (ad2.add j) = some (.slice (some ⟨g, 0, none⟩) R.length c4) := by rw [hWR1, cell_far (p := ⟨w1.heap.size + 1, 0, none⟩) (by rw [add_block]; show _ ≠ w1.heap.size + 1; omega)] at hc; exact hc
          have FA : (fun W_ : World => W_.cell? ⟨w1.heap.size, 0, none⟩ = some (.slice (some ad2) V.length c2) ∧ W_.cell? (ad2.add j) = some (.slice (some ⟨g, 0, none⟩) R.length c4) ∧ W_.cell? ⟨b14, 1, none⟩ = some (.int .i64 x.f1)) wr := ⟨(blk_cell HB2.out.h9 0).trans rfl, hcF, (blk_cell H14.out 1).trans rfl⟩
          have FB : (fun W_ : World => W_.cell? ⟨w1.heap.size, 0, none⟩ = some (.slice (some ad2) V.length c2) ∧ W_.cell? (ad2.add j) = some (.slice (some ⟨g, 0, none⟩) R.length c4) ∧ W_.cell? ⟨b14, 1, none⟩ = some (.int .i64 x.f1)) WR1 := ⟨(blk_cell hN.h9 0).trans rfl, hc, (blk_cell h14' 1).trans rfl⟩
          have hF : ∀ b W_, b 12 = false → Reg.Zc [(12, fun W_ => Below WR2.heap.size WR2 W_), (9, fun W_ => Below WR1.heap.size WR1 W_)] (fun W_ => Below wr.heap.size wr W_) b W_ → W_.cell? ⟨w1.heap.size, 0, none⟩ = some (.slice (some ad2) V.length c2) ∧ W_.cell? (ad2.add j) = some (.slice (some ⟨g, 0, none⟩) R.length c4) ∧ W_.cell? ⟨b14, 1, none⟩ = some (.int .i64 x.f1) := by
            intro b W_ hb12 hz
            simp only [Reg.Zc, hb12, Bool.false_eq_true, if_false] at hz
            split at hz
            · exact ⟨pw_cell_below hz FB.1, pw_cell_below hz FB.2.1, pw_cell_below hz FB.2.2⟩
            · exact ⟨pw_cell_below hz FA.1, pw_cell_below hz FA.2.1, pw_cell_below hz FA.2.2⟩
          have HF12 := Aside0.mk hF
          have NX := Aside0.mk (next_all HB2.out GL.out [w1.heap.size + 1, g] (by simp))
          rw [← hWR1] at NX
          have KW := Aside0.mk (fun W => kind_Wrap.calls x.f1 (nextF L q).1 _ W (wrap_is x.f1 (nextF L q).1))
          have HGH := Aside0.mk (show WR1.heap[g]? = some (.cells cells 3 (0, 0)) ∧ (∃ u, WR1.cell? ⟨g, ix, none⟩ = some u) ∧ WR2 = WR1.setCell ⟨g, ix, none⟩ (.int .i64 (wrapF x.f1 (nextF L q).1)) from ⟨hgh, ⟨_, hgc⟩, hWR2⟩)
          have HW0 := Aside0.mk HB2.out.below
          have hgw : wo.heap.size ≤ g := by omega
          have hjV2 : (j : Int) < (V.length : Int) := by omega
          have hiR : (ix : Int) < (R.length : Int) := by omega
          clear hN hput hput2 hgh hgc hWR1 hWR2 h14' h14s hc hcF FA FB hF z1 hje e2 H14
          go_wp2_with fail
          have hMZ : ∀ c ∈ ([(12, fun W_ => Below WR2.heap.size WR2 W_), (9, fun W_ => Below WR1.heap.size WR1 W_)] : List (Nat × (World → Prop))), Reg.MonoZ c.2 := Reg.monoZ_cons ((fun _ _ hb h => h.trans (hb.mono h.size))) (Reg.monoZ_cons ((fun _ _ hb h => h.trans (hb.mono h.size))) Reg.monoZ_nil)
          have hM0 : Reg.MonoZ (fun W_ => Below wr.heap.size wr W_) := (fun _ _ hb h => h.trans (hb.mono h.size))
          refine Reg.region_z [some 56, some 57, some 58, some 59, some 60, some 61, some 62, some 63, some 64, some 65, some 66, some 67, none] [0, 1, 0, 7, 15, 0, 0, 64, 0, 256, 960, 2047, 4095] (true, [([], []), ([0], [0]), ([], []), ([1, 2], [1, 2]), ([3], [3]), ([], []), ([], []), ([6], [6]), ([], []), ([8], [8]), ([7, 9, 9], [7, 9]), ([4, 5, 0, 1, 2, 3, 4, 5, 6, 7, 8, 9, 10], [4, 5]), ([11, 10, 10, 0, 1, 2, 3, 4, 5, 6, 7, 8, 9, 10], [10, 11])]) (fun i => ([(fun _ v_ => v_ = (.pointer (some ⟨w1.heap.size, 0, none⟩))), (fun _ v_ => v_ = (.slice (some ad2) V.length c2)), (fun _ v_ => v_ = (.int .i64 (j : Int))), (fun _ v_ => v_ = (.pointer (some (ad2.add j)))), (fun _ v_ => v_ = (.slice (some ⟨g, 0, none⟩) R.length c4)), (fun _ v_ => v_ = (.int .i64 (ix : Int))), (fun _ v_ => v_ = (.pointer (some ⟨b14, 1, none⟩))), (fun _ v_ => v_ = (.int .i64 x.f1)), (fun _ v_ => v_ = (.func (.func 33) #[] #[.pointer (some ⟨w1.heap.size + 1, 0, none⟩), .pointer (some ⟨wo.heap.size + 1, 0, none⟩)])), (fun _ v_ => v_ = (.int .i64 (nextF L q).1)), (fun _ v_ => v_ = (.int .i64 (wrapF x.f1 (nextF L q).1))), (fun _ v_ => v_ = (.pointer (some ⟨g, ix, none⟩))), (fun _ _ => True)] : List (World → Value → Prop)).getD i (fun _ _ => False)) (Reg.Zc [(12, fun W_ => Below WR2.heap.size WR2 W_), (9, fun W_ => Below WR1.heap.size WR1 W_)] (fun W_ => Below wr.heap.size wr W_)) [w1.heap.size + 1, g] wo
              (by kernel_rfl) (by kernel_rfl) (by kernel_rfl) (by kernel_rfl) (by kernel_rfl) (by decide) (by rfl) (HW0.out) (Reg.Zc.drew (fun m => pw_below_drewN (Below.refl _ _) m)) (Reg.monoL_getD ?_) [0, 1, 2, 3, 4, 5, 6, 7, 8, 9, 10, 11, 12] (by kernel_rfl) ?_ ?_ ?_
          · exact Reg.monoL_cons (Reg.monoL_eq _) (Reg.monoL_cons (Reg.monoL_eq _) (Reg.monoL_cons (Reg.monoL_eq _) (Reg.monoL_cons (Reg.monoL_eq _) (Reg.monoL_cons (Reg.monoL_eq _) (Reg.monoL_cons (Reg.monoL_eq _) (Reg.monoL_cons (Reg.monoL_eq _) (Reg.monoL_cons (Reg.monoL_eq _) (Reg.monoL_cons (Reg.monoL_eq _) (Reg.monoL_cons (Reg.monoL_eq _) (Reg.monoL_cons (Reg.monoL_eq _) (Reg.monoL_cons (Reg.monoL_eq _) (Reg.monoL_cons (fun _ _ _ _ _ => trivial) Reg.monoL_nil))))))))))))
          · skip
            refine Reg.zs_cons (Reg.ZStep.of_r hM0 hMZ (Reg.ne_chain (by rfl)) ?_) ?_
            · intro a w hb hs hel hon
              have e9 : a.tmps[9]? = some (.pointer (some ⟨w1.heap.size, 0, none⟩)) := (hel 9 (by decide)).trans rfl
              obtain ⟨_, g9⟩ := Array.getElem?_eq_some_iff.1 e9
              refine ⟨_, rfl, fun K hK => ?_⟩
              refine value_ (w1 := w) (v := .pointer (some ⟨w1.heap.size, 0, none⟩)) (by rfl) rfl ?_ (hK.out _ _ (Below.refl _ _) (rfl))
              · go_simp
                (try simp only [i64_w, g9])
                (try go_simp)
                try rfl
            refine Reg.zs_cons (Reg.ZStep.of_f 12 hM0 hMZ (Reg.ne_chain (by rfl)) HF12.out (by kernel_rfl) ?_) ?_
            · intro a w hF_ hb hs hel hon
              obtain ⟨_, e56, rfl⟩ := hon 0 56 (by kernel_rfl) rfl
              obtain ⟨_, g56⟩ := Array.getElem?_eq_some_iff.1 e56
              refine ⟨_, rfl, fun K hK => ?_⟩
              obtain ⟨p0_, p1_, p2_⟩ := hF_
              refine value_ (w1 := w) (v := .slice (some ad2) V.length c2) (by rfl) rfl ?_ (hK.out _ _ (Below.refl _ _) (rfl))
              · go_simp
                (try simp only [i64_w, g56])
                (try go_simp)
                try rfl
            refine Reg.zs_cons (Reg.ZStep.of_r hM0 hMZ (Reg.ne_chain (by rfl)) ?_) ?_
            · intro a w hb hs hel hon
              have e13 : a.tmps[13]? = some (.int .i64 (j : Int)) := (hel 13 (by decide)).trans rfl
              obtain ⟨_, g13⟩ := Array.getElem?_eq_some_iff.1 e13
              refine ⟨_, rfl, fun K hK => ?_⟩
              refine value_ (w1 := w) (v := .int .i64 (j : Int)) (by rfl) rfl ?_ (hK.out _ _ (Below.refl _ _) (rfl))
              · go_simp
                (try simp only [i64_w, g13])
                (try go_simp)
                try rfl
            refine Reg.zs_cons (Reg.ZStep.of_r hM0 hMZ (Reg.ne_chain (by rfl)) ?_) ?_
            · intro a w hb hs hel hon
              obtain ⟨_, e57, rfl⟩ := hon 1 57 (by kernel_rfl) rfl
              obtain ⟨_, e58, rfl⟩ := hon 2 58 (by kernel_rfl) rfl
              obtain ⟨_, g57⟩ := Array.getElem?_eq_some_iff.1 e57
              obtain ⟨_, g58⟩ := Array.getElem?_eq_some_iff.1 e58
              refine ⟨_, rfl, fun K hK => ?_⟩
              refine value_ (w1 := w) (v := .pointer (some (ad2.add j))) (by rfl) rfl ?_ (hK.out _ _ (Below.refl _ _) (rfl))
              · go_simp
                (try simp only [i64_w, g57, g58])
                (try go_simp)
                try rfl
            refine Reg.zs_cons (Reg.ZStep.of_f 12 hM0 hMZ (Reg.ne_chain (by rfl)) HF12.out (by kernel_rfl) ?_) ?_
            · intro a w hF_ hb hs hel hon
              obtain ⟨_, e59, rfl⟩ := hon 3 59 (by kernel_rfl) rfl
              obtain ⟨_, g59⟩ := Array.getElem?_eq_some_iff.1 e59
              refine ⟨_, rfl, fun K hK => ?_⟩
              obtain ⟨p0_, p1_, p2_⟩ := hF_
              refine value_ (w1 := w) (v := .slice (some ⟨g, 0, none⟩) R.length c4) (by rfl) rfl ?_ (hK.out _ _ (Below.refl _ _) (rfl))
              · go_simp
                (try simp only [i64_w, g59])
                (try go_simp)
                try rfl
            refine Reg.zs_cons (Reg.ZStep.of_r hM0 hMZ (Reg.ne_chain (by rfl)) ?_) ?_
            · intro a w hb hs hel hon
              have e15 : a.tmps[15]? = some (.int .i64 (ix : Int)) := (hel 15 (by decide)).trans rfl
              obtain ⟨_, g15⟩ := Array.getElem?_eq_some_iff.1 e15
              refine ⟨_, rfl, fun K hK => ?_⟩
              refine value_ (w1 := w) (v := .int .i64 (ix : Int)) (by rfl) rfl ?_ (hK.out _ _ (Below.refl _ _) (rfl))
              · go_simp
                (try simp only [i64_w, g15])
                (try go_simp)
                try rfl
            refine Reg.zs_cons (Reg.ZStep.of_r hM0 hMZ (Reg.ne_chain (by rfl)) ?_) ?_
            · intro a w hb hs hel hon
              have e14 : a.tmps[14]? = some (.pointer (some ⟨b14, 0, none⟩)) := (hel 14 (by decide)).trans rfl
              obtain ⟨_, g14⟩ := Array.getElem?_eq_some_iff.1 e14
              refine ⟨_, rfl, fun K hK => ?_⟩
              refine value_ (w1 := w) (v := .pointer (some ⟨b14, 1, none⟩)) (by rfl) rfl ?_ (hK.out _ _ (Below.refl _ _) (rfl))
              · go_simp
                (try simp only [i64_w, g14])
                (try go_simp)
                try rfl
            refine Reg.zs_cons (Reg.ZStep.of_f 12 hM0 hMZ (Reg.ne_chain (by rfl)) HF12.out (by kernel_rfl) ?_) ?_
            · intro a w hF_ hb hs hel hon
              obtain ⟨_, e62, rfl⟩ := hon 6 62 (by kernel_rfl) rfl
              obtain ⟨_, g62⟩ := Array.getElem?_eq_some_iff.1 e62
              refine ⟨_, rfl, fun K hK => ?_⟩
              obtain ⟨p0_, p1_, p2_⟩ := hF_
              refine value_ (w1 := w) (v := .int .i64 x.f1) (by rfl) rfl ?_ (hK.out _ _ (Below.refl _ _) (rfl))
              · go_simp
                (try simp only [i64_w, g62])
                (try go_simp)
                try rfl
            refine Reg.zs_cons (Reg.ZStep.of_r hM0 hMZ (Reg.ne_chain (by rfl)) ?_) ?_
            · intro a w hb hs hel hon
              have e12 : a.tmps[12]? = some (.func (.func 33) #[] #[.pointer (some ⟨w1.heap.size + 1, 0, none⟩), .pointer (some ⟨wo.heap.size + 1, 0, none⟩)]) := (hel 12 (by decide)).trans rfl
              obtain ⟨_, g12⟩ := Array.getElem?_eq_some_iff.1 e12
              refine ⟨_, rfl, fun K hK => ?_⟩
              refine value_ (w1 := w) (v := .func (.func 33) #[] #[.pointer (some ⟨w1.heap.size + 1, 0, none⟩), .pointer (some ⟨wo.heap.size + 1, 0, none⟩)]) (by rfl) rfl ?_ (hK.out _ _ (Below.refl _ _) (rfl))
              · go_simp
                (try simp only [i64_w, g12])
                (try go_simp)
                try rfl
            refine Reg.zs_cons ?_ ?_
            · intro b a w hb hz hs hel hi hup hoff hon
              have f12 := hoff 12 (by kernel_rfl)
              have hz1 := hz
              simp only [Reg.Zc, f12, hi, Bool.false_eq_true, if_false, if_true] at hz1
              obtain ⟨_, e64, rfl⟩ := hon 8 64 (by kernel_rfl) rfl
              refine ⟨_, rfl, fun K hK => ?_⟩
              refine Reg.goesv_ Try.func33 (by kernel_rfl) rfl #[.pointer (some ⟨w1.heap.size + 1, 0, none⟩), .pointer (some ⟨wo.heap.size + 1, 0, none⟩)] (by rfl) rfl rfl (Reg.eval_tmp e64) ?_
              refine (NX.out w hz1).mono ?_
              rintro e w2 ⟨rfl, hb2, hk2, hz2⟩
              exact ⟨_, rfl, hK.out _ _ hb2 hk2 (by simp only [Reg.Zc, up_self, up_ne (show 12 ≠ 9 by decide), f12, Bool.false_eq_true, if_false, if_true]; exact hz2) rfl⟩
            refine Reg.zs_cons (Reg.ZStep.of_r hM0 hMZ (Reg.ne_chain (by rfl)) ?_) ?_
            · intro a w hb hs hel hon
              obtain ⟨_, e63, rfl⟩ := hon 7 63 (by kernel_rfl) rfl
              obtain ⟨_, e65, rfl⟩ := hon 9 65 (by kernel_rfl) rfl
              refine ⟨_, rfl, fun K hK => ?_⟩
              refine goes_ Try.func34 (by kernel_rfl) rfl #[.int .i64 x.f1, .int .i64 (nextF L q).1] (by rfl) rfl rfl (by first | (simp only [List.map_toArray, List.map_cons, List.map_nil, Act.eval, Array.getD_eq_getD_getElem?, Option.getD_some, e63, e65]; done) | (simp only [List.map_toArray, List.map_cons, List.map_nil, Act.eval, Array.getD_eq_getD_getElem?, Option.getD_some, e63, e65]; rfl) | rfl) ?_
              refine (KW.out w).mono ?_
              rintro e w2 ⟨rfl, nd_, rfl⟩
              exact ⟨_, rfl, hK.out _ _ (pw_below_drewN (Below.refl _ _) nd_) rfl⟩
            refine Reg.zs_cons (Reg.ZStep.of_r hM0 hMZ (Reg.ne_chain (by rfl)) ?_) ?_
            · intro a w hb hs hel hon
              obtain ⟨_, e60, rfl⟩ := hon 4 60 (by kernel_rfl) rfl
              obtain ⟨_, e61, rfl⟩ := hon 5 61 (by kernel_rfl) rfl
              obtain ⟨_, g60⟩ := Array.getElem?_eq_some_iff.1 e60
              obtain ⟨_, g61⟩ := Array.getElem?_eq_some_iff.1 e61
              refine ⟨_, rfl, fun K hK => ?_⟩
              refine value_ (w1 := w) (v := .pointer (some ⟨g, ix, none⟩)) (by rfl) rfl ?_ (hK.out _ _ (Below.refl _ _) (rfl))
              · go_simp
                (try simp only [i64_w, g60, g61])
                (try go_simp)
                try rfl
            refine Reg.zs_cons ?_ ?_
            · intro b a w hb hz hs hel hi hup hoff hon
              have q9 := hup 9 (by kernel_rfl)
              have hz1 := hz
              simp only [Reg.Zc, hi, q9, Bool.false_eq_true, if_false, if_true] at hz1
              obtain ⟨_, e67, rfl⟩ := hon 11 67 (by kernel_rfl) rfl
              obtain ⟨_, e66, rfl⟩ := hon 10 66 (by kernel_rfl) rfl
              refine ⟨_, rfl, fun K hK => ?_⟩
              rw [if_pos (by rfl)]
              obtain ⟨gh_, ⟨u_, gc_⟩, ge_⟩ := HGH.out
              have c_ := pw_cell_below hz1 gc_
              have hw_ := (hz1.block _ (blk_lt gh_)).trans gh_
              have f_ := blk_frozen hw_ ix
              obtain ⟨_, g67⟩ := Array.getElem?_eq_some_iff.1 e67
              obtain ⟨_, g66⟩ := Array.getElem?_eq_some_iff.1 e66
              refine Reg.skipP_ (w1 := w.setCell ⟨g, ix, none⟩ (.int .i64 (wrapF x.f1 (nextF L q).1))) rfl ?_ (hK.out undef _ (hb.setCell hgw _) ⟨by simp [World.setCell], fun i_ hi_ hn_ => Below.heap_setCell _ _ _ i_ (fun e_ => hn_ (by rw [e_]; simp))⟩ (by simp only [Reg.Zc, up_self, if_true]; rw [ge_]; exact below_both hz1 gh_ ix _) trivial)
              go_simp
              (try go_simp)
            exact Reg.zs_nil
          · intro a w hI
            rename_i K_ hK_
            refine hK_ a w ?_
            have hz := hI.z
            simp only [Reg.Zc, if_true] at hz
            have HQ := Aside0.mk (HP.out.step hz)
            have H14q := Aside0.mk ((hz.block _ (blk_lt H14s.out)).trans H14s.out)
            obtain ⟨_, e56, rfl⟩ := hI.vals 0 56 rfl rfl
            obtain ⟨_, e57, rfl⟩ := hI.vals 1 57 rfl rfl
            obtain ⟨_, e58, rfl⟩ := hI.vals 2 58 rfl rfl
            obtain ⟨_, e59, rfl⟩ := hI.vals 3 59 rfl rfl
            obtain ⟨_, e60, rfl⟩ := hI.vals 4 60 rfl rfl
            obtain ⟨_, e61, rfl⟩ := hI.vals 5 61 rfl rfl
            obtain ⟨_, e62, rfl⟩ := hI.vals 6 62 rfl rfl
            obtain ⟨_, e63, rfl⟩ := hI.vals 7 63 rfl rfl
            obtain ⟨_, e64, rfl⟩ := hI.vals 8 64 rfl rfl
            obtain ⟨_, e65, rfl⟩ := hI.vals 9 65 rfl rfl
            obtain ⟨_, e66, rfl⟩ := hI.vals 10 66 rfl rfl
            obtain ⟨_, e67, rfl⟩ := hI.vals 11 67 rfl rfl
            have g56 := Reg.getD_of e56
            have g57 := Reg.getD_of e57
            have g58 := Reg.getD_of e58
            have g59 := Reg.getD_of e59
            have g60 := Reg.getD_of e60
            have g61 := Reg.getD_of e61
            have g62 := Reg.getD_of e62
            have g63 := Reg.getD_of e63
            have g64 := Reg.getD_of e64
            have g65 := Reg.getD_of e65
            have g66 := Reg.getD_of e66
            have g67 := Reg.getD_of e67
            have hfr := Reg.RegI.frame (⟨hI.below, hI.defers, hI.size, hI.elder, hI.vals⟩ : Reg.RegI _ _ _ _ _ _ _)
            rw [hfr]
            simp only [Reg.puts, Act.put, List.setIfInBounds_toArray, List.set_cons_zero, List.set_cons_succ]
            rw [g56, g57, g58, g59, g60, g61, g62, g63, g64, g65, g66, g67]
            generalize a.tmps = ts_
            clear hI hfr hK_ hz e56 g56 e57 g57 e58 g58 e59 g59 e60 g60 e61 g61 e62 g62 e63 g63 e64 g64 e65 g65 e66 g66 e67 g67
            go_wp2_with fail
            refine ⟨⟨ix + 1, R.set ix (wrapF x.f1 (nextF L q).1), (nextF L q).2, by omega, by push_cast; rfl, HQ, ⟨HF.out.step (by omega)⟩, H14q⟩, ?_⟩
            rw [show intOf (.int .i64 ((ix : Int) + 1)) = (ix : Int) + 1 from rfl, show intOf (.int .i64 (ix : Int)) = (ix : Int) from rfl]
            omega
          · intro b w hall h
            have hc := hall 12 (by kernel_rfl)
            unfold Reg.Zc at h ⊢
            rw [if_pos hc] at h
            rw [if_pos rfl]
            exact h
        · go_wp2_with fail
          obtain rfl : ix = R0.length := by omega
          have hf := HF.out.last
          have h3 := H3.out
          rw [HX.out, HR0.out] at hf
          rw [HX.out] at h3
          refine ⟨⟨j + 1, V'.set j R, q, by omega, by push_cast; rfl, HB2, ⟨HI.out.fill hjv (by omega) h3 hf⟩⟩, ?_⟩
          rw [show intOf (.int .i64 ((j : Int) + 1)) = (j : Int) + 1 from rfl, show intOf (.int .i64 (j : Int)) = (j : Int) from rfl]
          omega
    · have hq := HB.out.h9
      have p0 : wr.cell? ⟨w1.heap.size, 0, none⟩ = some (.slice A2 V.length c2) := (blk_cell hq 0).trans rfl
      have p1 : wr.cell? ⟨w1.heap.size, 1, none⟩ = some (.slice A3 B.length c3) := (blk_cell hq 1).trans rfl
      have p2 : wr.cell? ⟨w1.heap.size, 2, none⟩ = some (.int .i64 (nowF n dt)) := (blk_cell hq 2).trans rfl
      have p3 : wr.cell? ⟨w1.heap.size, 3, none⟩ = some (.int .i64 f) := (blk_cell hq 3).trans rfl
      have h8 := HB.out.h8
      clear hq
      go_wp2_with ((with_reducible refine gate_store (t := 31) (p := 8) (v := .tmp 70) rfl ?_); refine wpList_store_row rfl 31 (.tmp 8) (.tmp 70) rfl (wo.heap.size + 2) #[.slice A2 V.length c2, .slice A3 B.length c3, .int .i64 (nowF n dt), .int .i64 f] rfl rfl 31 _ h8 (by rw [hi4]; rfl) rfl (by kernel_rfl) ?_)
      refine bodyPost_ret (results_single rfl (.cell (wo.heap.size + 2) 31 #[.slice A2 V.length c2, .slice A3 B.length c3, .int .i64 (nowF n dt), .int .i64 f] (0, 0) _ rfl (setRow_heap _ _ _ _ _ _ h8) Try.underlying31 rfl hi4 .nil)) rfl ?_
      obtain rfl : j = v.length := by omega
      have hbl := HB.out.lt
      refine ⟨_, _, rfl, ?_, ?_, below_setRow HB.out.below (by omega) _⟩
      · rw [← HI.out.last]
        exact Kd.S_mono (Kd.S_lower (Kd.S_step (Kd.S_types (t := 31) HB.out.s h8 (by decide)) (fun k hk _ => setRow_other _ _ _ _ (fun e => hk.2 e))) (by omega)) (fun _ _ => trivial)
      · exact Kd.R_mono (Kd.R_lower (Kd.R_step (Kd.R_types (t := 31) HB.out.r h8 (by decide)) (fun k hk _ => setRow_other _ _ _ _ (fun e => hk.2 e))) (by omega)) (fun _ _ => trivial)
end Go.Proofs.Ytamajfcjcfkkjaa.Given
end

section
/- cycle.Begin's contract, in the print's form. -/
namespace Go.Proofs.Ytamajfcjcfkkjaa.Given
open Go Go.RowKit Go.Proofs.Ytamajfcjcfkkjaa.PSt Go.Proofs.Ytamajfcjcfkkjaa.RPure Go.Proofs.YtamajfcjcfkkjaaW.PrintWords Go.Proofs.YtamajfcjcfkkjaaW.PrintLast Go.Proofs.YtamajfcjcfkkjaaW.PrintMore
set_option linter.unusedVariables false
def cycle_Begin.f (v : List S60) (V : List (List Int)) (B : List S69) (n f : Int) (L : List Int) (dt : Int) : Option (List (List Int) × List S69 × Int × Int) :=
  if state_Clone.f 2000 V B n f = some (V, B, n, f) then some (beginV L 0 v V, B, nowF n dt, f) else none
theorem cycle_Begin.calls (A0 : Option Addr) (c0 : Nat) (l0 : List S60) (A1_0 : Option Addr) (c1_0 : Nat) (l1_0 : List (List Int)) (A1_1 : Option Addr) (c1_1 : Nat) (l1_1 : List S69) (a1_2 a1_3 : Int) (A2 : Option Addr) (c2 : Nat) (l2 : List Int) (a3 : Int) (r1 : List (List Int)) (r2 : List S69) (r3 r4 : Int) (w : World)
    (hr0 : Kd.C k60 w A0 l0.length l0) (hc0 : l0.length ≤ c0) (hr1_0 : Kd.C (Kd.slice 3 (Kd.int .i64)) w A1_0 l1_0.length l1_0) (hc1_0 : l1_0.length ≤ c1_0) (hr1_1 : Kd.C k69 w A1_1 l1_1.length l1_1) (hc1_1 : l1_1.length ≤ c1_1) (hr2 : Kd.C (Kd.int .i64) w A2 l2.length l2) (hc2 : l2.length ≤ c2) (h : cycle_Begin.f l0 l1_0 l1_1 a1_2 a1_3 l2 a3 = some (r1, r2, r3, r4)) :
    Calls Try.prog 13 #[.slice A0 l0.length c0, .agg #[.slice A1_0 l1_0.length c1_0, .slice A1_1 l1_1.length c1_1, .int .i64 a1_2, .int .i64 a1_3], .slice A2 l2.length c2, .int .i64 a3] w fun e w' => ∃ v0_ v1_ : Value, e = .returned (.agg #[v0_, v1_, .int .i64 r3, .int .i64 r4]) ∧ Kd.S (Kd.slice 3 (Kd.int .i64)) 32 w' w.heap.size (fun _ => True) v0_ r1 ∧ Kd.R k69 69 w' w.heap.size (fun _ => True) v1_ r2 ∧ Below w.heap.size w w' := by
  unfold cycle_Begin.f at h
  split at h
  · rename_i hc
    simp only [Option.some.injEq, Prod.mk.injEq] at h
    obtain ⟨rfl, rfl, rfl, rfl⟩ := h
    exact begin_w A1_0 A1_1 A0 A2 c1_0 c1_1 c0 c2 l0 l1_0 l1_1 a1_2 a1_3 a3 l2 2000 w hr0 hr1_0 hc1_0 hr1_1 hc1_1 hr2 hc
  · cases h
end Go.Proofs.Ytamajfcjcfkkjaa.Given
end

section
/- Printed by a program of this session (wip/pg.py, over the print of the kit): functions, their Lean twins, and the proofs that the calls come to them; each under the conditions that it names. -/
namespace Go.Proofs.Ytamajfcjcfkkjaa.PSt
open Go.Proofs.Ytamajfcjcfkkjaa.Given
open Go.RowKit Go.Proofs.YtamajfcjcfkkjaaW.PrintWords Go.Proofs.YtamajfcjcfkkjaaW.PrintLast Go.Proofs.YtamajfcjcfkkjaaW.PrintMore
attribute [local go_sem] max2_int min2_int max_two min_two max_three min_three max_four min_four   -- for this text's walks alone
set_option linter.unusedVariables false
set_option linter.unusedSimpArgs false

/-! ### ladderbacklaw24_awake: function 10 -/
def ladderbacklaw24_awake.f  : Option (Bool) := (cycle_Begin.f (([(⟨(⟨#[]⟩ : ByteArray), 1, 1, 1, 0⟩ : S60)] : List (S60))) (([(([0] : List Int))] : List (List Int))) ([] : List (S69)) 0 0 (([5] : List Int)) 7).bind fun bt376 => (if bt376.2.2.1 = 7 then (if (bt376.1.length : Int) = 1 then (if 0 < (bt376.1.length : Int) then (if 0 < ((rd_L1 bt376.1 0).length : Int) then (some ((rd (rd_L1 bt376.1 0) 0) == 1)) else (none)) else (none)) else (some false)) else (some false))
set_option maxHeartbeats 8000000 in
set_option maxRecDepth 100000 in
theorem ladderbacklaw24_awake.calls  (r : Bool) (w : World) (h : ladderbacklaw24_awake.f  = some r) :
    Calls Try.prog 10 #[] w fun e w' => e = .returned (.bool r) ∧ Below w.heap.size w w' := by
  have hu60 := Try.underlying60
  have hu31 := Try.underlying31
  have HB := Aside0.mk (Below.refl w.heap.size w)
  have H : ((cycle_Begin.f (([(⟨(⟨#[]⟩ : ByteArray), 1, 1, 1, 0⟩ : S60)] : List (S60))) (([(([0] : List Int))] : List (List Int))) ([] : List (S69)) 0 0 (([5] : List Int)) 7).bind fun bt376 => (if bt376.2.2.1 = 7 then (if (bt376.1.length : Int) = 1 then (if 0 < (bt376.1.length : Int) then (if 0 < ((rd_L1 bt376.1 0).length : Int) then (some ((rd (rd_L1 bt376.1 0) 0) == 1)) else (none)) else (none)) else (some false)) else (some false))) = some r := h
  clear h
  obtain ⟨y364, hy364⟩ : ∃ y_ : List (S60), y_ = (([(⟨(⟨#[]⟩ : ByteArray), 1, 1, 1, 0⟩ : S60)] : List (S60))) := ⟨_, rfl⟩
  replace H : ((cycle_Begin.f y364 (([(([0] : List Int))] : List (List Int))) ([] : List (S69)) 0 0 (([5] : List Int)) 7).bind fun bt376 => (if bt376.2.2.1 = 7 then (if (bt376.1.length : Int) = 1 then (if 0 < (bt376.1.length : Int) then (if 0 < ((rd_L1 bt376.1 0).length : Int) then (some ((rd (rd_L1 bt376.1 0) 0) == 1)) else (none)) else (none)) else (some false)) else (some false))) = some r := by first | (rw [hy364]; with_reducible exact H) | (have H2_ := (Option.bind_some _ _).symm.trans H; rw [hy364]; with_reducible exact H2_) | (have H2_ := (Option.bind_some _ _).symm.trans H; with_reducible exact H2_) | with_reducible exact H | (rw [hy364]; exact H) | exact H
  have Ny364 := Aside0.mk hy364
  clear hy364
  obtain ⟨y367, hy367⟩ : ∃ y_ : List Int, y_ = (([0] : List Int)) := ⟨_, rfl⟩
  replace H : ((cycle_Begin.f y364 (([y367] : List (List Int))) ([] : List (S69)) 0 0 (([5] : List Int)) 7).bind fun bt376 => (if bt376.2.2.1 = 7 then (if (bt376.1.length : Int) = 1 then (if 0 < (bt376.1.length : Int) then (if 0 < ((rd_L1 bt376.1 0).length : Int) then (some ((rd (rd_L1 bt376.1 0) 0) == 1)) else (none)) else (none)) else (some false)) else (some false))) = some r := by first | (rw [hy367]; with_reducible exact H) | (have H2_ := (Option.bind_some _ _).symm.trans H; rw [hy367]; with_reducible exact H2_) | (have H2_ := (Option.bind_some _ _).symm.trans H; with_reducible exact H2_) | with_reducible exact H | (rw [hy367]; exact H) | exact H
  have Ny367 := Aside0.mk hy367
  clear hy367
  obtain ⟨y370, hy370⟩ : ∃ y_ : List (List Int), y_ = (([y367] : List (List Int))) := ⟨_, rfl⟩
  replace H : ((cycle_Begin.f y364 y370 ([] : List (S69)) 0 0 (([5] : List Int)) 7).bind fun bt376 => (if bt376.2.2.1 = 7 then (if (bt376.1.length : Int) = 1 then (if 0 < (bt376.1.length : Int) then (if 0 < ((rd_L1 bt376.1 0).length : Int) then (some ((rd (rd_L1 bt376.1 0) 0) == 1)) else (none)) else (none)) else (some false)) else (some false))) = some r := by first | (rw [hy370]; with_reducible exact H) | (have H2_ := (Option.bind_some _ _).symm.trans H; rw [hy370]; with_reducible exact H2_) | (have H2_ := (Option.bind_some _ _).symm.trans H; with_reducible exact H2_) | with_reducible exact H | (rw [hy370]; exact H) | exact H
  have Ny370 := Aside0.mk hy370
  clear hy370
  obtain ⟨y373, hy373⟩ : ∃ y_ : List Int, y_ = (([5] : List Int)) := ⟨_, rfl⟩
  replace H : ((cycle_Begin.f y364 y370 ([] : List (S69)) 0 0 y373 7).bind fun bt376 => (if bt376.2.2.1 = 7 then (if (bt376.1.length : Int) = 1 then (if 0 < (bt376.1.length : Int) then (if 0 < ((rd_L1 bt376.1 0).length : Int) then (some ((rd (rd_L1 bt376.1 0) 0) == 1)) else (none)) else (none)) else (some false)) else (some false))) = some r := by first | (rw [hy373]; with_reducible exact H) | (have H2_ := (Option.bind_some _ _).symm.trans H; rw [hy373]; with_reducible exact H2_) | (have H2_ := (Option.bind_some _ _).symm.trans H; with_reducible exact H2_) | with_reducible exact H | (rw [hy373]; exact H) | exact H
  have Ny373 := Aside0.mk hy373
  clear hy373
  replace H := Option.bind_eq_some_iff.mp H
  obtain ⟨⟨t376, t379, t382, t383⟩, A10, H⟩ := H
  replace H : (if t382 = 7 then (if (t376.length : Int) = 1 then (if 0 < (t376.length : Int) then (if 0 < ((rd_L1 t376 0).length : Int) then (some ((rd (rd_L1 t376 0) 0) == 1)) else (none)) else (none)) else (some false)) else (some false)) = some r := H
  have A1 := Aside0.mk A10
  clear A10
  by_cases c2 : t382 = 7
  · rw [if_pos c2] at H
    have c2b0 : (t382 == 7) = true := beq_iff_eq.mpr c2
    have c2b1 : (t382 != 7) = false := bne_eq_false_iff_eq.mpr c2
    clear c2
    by_cases c3 : (t376.length : Int) = 1
    · rw [if_pos c3] at H
      have c3b0 : ((t376.length : Int) == 1) = true := beq_iff_eq.mpr c3
      have c3b1 : ((t376.length : Int) != 1) = false := bne_eq_false_iff_eq.mpr c3
      clear c3
      by_cases c4 : 0 < (t376.length : Int)
      · rw [if_pos c4] at H
        have c4b0 : decide (0 < (t376.length : Int)) = true := decide_eq_true c4
        have c4b1 : decide (0 < t376.length) = true := decide_eq_true (by omega)
        clear c4
        by_cases c5 : 0 < ((rd_L1 t376 0).length : Int)
        · rw [if_pos c5] at H
          have c5b0 : decide (0 < ((rd_L1 t376 0).length : Int)) = true := decide_eq_true c5
          have c5b1 : decide (0 < (rd_L1 t376 0).length) = true := decide_eq_true (by omega)
          clear c5
          obtain rfl := Option.some.inj H
          go_enter Try.func10, Try.ntmps10
          go_wp2_with (first | ((with_reducible refine gate_dst (N := 3) rfl ?_); (try (refine gate_guard (by rfl) ?_; dsimp only)); refine Kd.R_lit k60 _ 60 ?hg (N := 3) ?hd (xs := ([(⟨(⟨#[]⟩ : ByteArray), 1, 1, 1, 0⟩ : S60)] : List (S60))) (inner := [.string (⟨#[]⟩ : ByteArray), .int .i64 1, .int .i64 1, .int .i64 1, .int .i64 0]) (ok := fun _ => True) (okp := fun _ => True) ?hr ?hp (fun _ hk => hk) trivial (Below.refl _ _) (Nat.le_refl _) (by simp) ?_; (case hd => rfl); (case hg => rfl); (case hr => first | (go_simp; done) | (go_simp; rfl)); (case hp => exact (Reps.c5 (show Kd.M k60 _ _ _ (⟨(⟨#[]⟩ : ByteArray), 1, 1, 1, 0⟩ : S60) [.string (⟨#[]⟩ : ByteArray), .int .i64 1, .int .i64 1, .int .i64 1, .int .i64 0] from (k60_mkM _ _ _ (⟨(⟨#[]⟩ : ByteArray), 1, 1, 1, 0⟩ : S60) )) (Reps.none _ _))); intro v365 w6 ho7 hb hg_ hnew_; clear hg_ hnew_; (first | rw [← Ny364.out] at ho7 | (simp only [Int.reduceToNat] at ho7; rw [← Ny364.out] at ho7)); have n0_ := Aside0.mk (Kd.R_lower ho7 (below_size (by repeat (first | (with_reducible first | exact HB.out | apply below_alloc | apply pw_below_drewN | apply below_drew1) | exact HB.out)))); have n1_ := Aside0.mk (below_step (by repeat (first | (with_reducible first | exact HB.out | apply below_alloc | apply pw_below_drewN | apply below_drew1) | exact HB.out)) hb); clear HB; have HO366 := n0_; have HB := n1_; clear n0_ n1_; clear hb ho7) | ((with_reducible refine gate_dst (N := 4) rfl ?_); (try (refine gate_guard (by rfl) ?_; dsimp only)); refine Kd.R_lit (Kd.int .i64) _ 3 ?hg (N := 4) ?hd (xs := ([0] : List Int)) (inner := [.int .i64 0]) (ok := fun _ => True) (okp := fun _ => True) ?hr ?hp (fun _ hk => hk) trivial (Below.refl _ _) (Nat.le_refl _) (by simp) ?_; (case hd => rfl); (case hg => rfl); (case hr => first | (go_simp; done) | (go_simp; rfl)); (case hp => exact (Reps.one (show Kd.M (Kd.int .i64) _ _ _ 0 [.int .i64 0] from rfl) (Reps.none _ _))); intro v368 w8 ho9 hb hg_ hnew_; clear hg_ hnew_; (first | rw [← Ny367.out] at ho9 | (simp only [Int.reduceToNat] at ho9; rw [← Ny367.out] at ho9)); have n0_ := Aside0.mk (Kd.R_below (by (with_reducible repeat (first | apply Kd.R_alloc | apply Kd.R_drewN | apply Kd.R_drew)); exact HO366.out) hb); have n1_ := Aside0.mk (Kd.R_lower ho9 (below_size (by repeat (first | (with_reducible first | exact HB.out | apply below_alloc | apply pw_below_drewN | apply below_drew1) | exact HB.out)))); have n2_ := Aside0.mk (below_step (by repeat (first | (with_reducible first | exact HB.out | apply below_alloc | apply pw_below_drewN | apply below_drew1) | exact HB.out)) hb); clear HO366; clear HB; have HO366 := n0_; have HO369 := n1_; have HB := n2_; clear n0_ n1_ n2_; clear hb ho9; obtain ⟨Ao10, co10, eo10⟩ := Kd.R_slice HO369.out; subst eo10) | ((with_reducible refine gate_dst (N := 5) rfl ?_); (try (refine gate_guard (by rfl) ?_; dsimp only)); refine Kd.N_lit (Kd.slice 3 (Kd.int .i64)) _ 32 ?hg (N' := 5) ?hd (xs := ([y367] : List (List Int))) (inner := [.slice Ao10 y367.length co10]) (ok := (fun k_ => some k_ ≠ (v365 : Value).ownBlock)) (okp := (fun k_ => some k_ ≠ (v365 : Value).ownBlock)) ?hr ?hp (fun _ hk => hk) ((show ∀ k_, w8.heap.size ≤ k_ → (fun k_ => some k_ ≠ (v365 : Value).ownBlock) k_ from fun k_ hk => Kd.fresh' (Kd.R_lt (by (with_reducible repeat (first | apply Kd.R_alloc | apply Kd.R_drewN | apply Kd.R_drew)); exact HO366.out)) k_ hk) _ (Nat.le_refl _)) (Below.refl _ _) (Nat.le_refl _) (by simp) ?_; (case hd => rfl); (case hg => rfl); (case hr => first | (go_simp; done) | (go_simp; rfl)); (case hp => exact (Reps.one (show Kd.FK (Kd.slice 3 (Kd.int .i64)) _ _ y367 [.slice Ao10 y367.length co10] from (Kd.FK_slice_mk (Kd.R_reads' (Kd.R_mono (ok' := (fun k_ => some k_ ≠ (v365 : Value).ownBlock)) (Kd.R_apart' (HO369.out) (Kd.R_typed HO366.out) (by decide)) (fun k_ hk => hk.2))).2.1 (Kd.R_F (Kd.R_mono (ok' := (fun k_ => some k_ ≠ (v365 : Value).ownBlock)) (Kd.R_apart' (HO369.out) (Kd.R_typed HO366.out) (by decide)) (fun k_ hk => hk.2))))) (Reps.none _ _))); intro v371 w11 ho12 hb hg_ hnew_; clear hg_ hnew_; (first | rw [← Ny370.out] at ho12 | (simp only [Int.reduceToNat] at ho12; rw [← Ny370.out] at ho12)); have n0_ := Aside0.mk (Kd.R_below (by (with_reducible repeat (first | apply Kd.R_alloc | apply Kd.R_drewN | apply Kd.R_drew)); exact HO366.out) hb); have n1_ := Aside0.mk (Kd.N_lower ho12 (below_size (by repeat (first | (with_reducible first | exact HB.out | apply below_alloc | apply pw_below_drewN | apply below_drew1) | exact HB.out)))); have n2_ := Aside0.mk (below_step (by repeat (first | (with_reducible first | exact HB.out | apply below_alloc | apply pw_below_drewN | apply below_drew1) | exact HB.out)) hb); clear HO366; clear HB; clear HO369; have HO366 := n0_; have HO372 := n1_; have HB := n2_; clear n0_ n1_ n2_; clear hb ho12; obtain ⟨Ao13, co13, eo13⟩ := Kd.N_slice HO372.out; subst eo13) | ((with_reducible refine gate_dst (N := 7) rfl ?_); (try (refine gate_guard (by rfl) ?_; dsimp only)); refine Kd.R_lit (Kd.int .i64) _ 3 ?hg (N := 7) ?hd (xs := ([5] : List Int)) (inner := [.int .i64 5]) (ok := fun _ => True) (okp := fun _ => True) ?hr ?hp (fun _ hk => hk) trivial (Below.refl _ _) (Nat.le_refl _) (by simp) ?_; (case hd => rfl); (case hg => rfl); (case hr => first | (go_simp; done) | (go_simp; rfl)); (case hp => exact (Reps.one (show Kd.M (Kd.int .i64) _ _ _ 5 [.int .i64 5] from rfl) (Reps.none _ _))); intro v374 w14 ho15 hb hg_ hnew_; clear hg_ hnew_; (first | rw [← Ny373.out] at ho15 | (simp only [Int.reduceToNat] at ho15; rw [← Ny373.out] at ho15)); have n0_ := Aside0.mk (Kd.R_below (by (with_reducible repeat (first | apply Kd.R_alloc | apply Kd.R_drewN | apply Kd.R_drew)); exact HO366.out) hb); have n1_ := Aside0.mk (Kd.N_elder' (by (with_reducible repeat (first | apply Kd.N_alloc | apply Kd.N_drewN | apply Kd.N_drew)); exact HO372.out) (Kd.R_base ho15) hb); have n2_ := Aside0.mk (Kd.R_lower ho15 (below_size (by repeat (first | (with_reducible first | exact HB.out | apply below_alloc | apply pw_below_drewN | apply below_drew1) | exact HB.out)))); have n3_ := Aside0.mk (below_step (by repeat (first | (with_reducible first | exact HB.out | apply below_alloc | apply pw_below_drewN | apply below_drew1) | exact HB.out)) hb); clear HO366; clear HO372; clear HB; have HO366 := n0_; have HO372 := n1_; have HO375 := n2_; have HB := n3_; clear n0_ n1_ n2_ n3_; clear hb ho15; obtain ⟨Ao16, co16, eo16⟩ := Kd.R_slice HO366.out; subst eo16; obtain ⟨Ao17, co17, eo17⟩ := Kd.R_slice HO375.out; subst eo17) | ((with_reducible refine gate_callee (f := 13) rfl ?_); refine goesL_ (some 8) rfl rfl Try.func13 (by kernel_rfl) rfl #[.slice Ao16 y364.length co16, .agg #[.slice Ao13 y370.length co13, .slice none 0 0, .int .i64 0, .int .i64 0], .slice Ao17 y373.length co17, .int .i64 7] rfl (by (try simp only [List.map_toArray, List.map_cons, List.map_nil]); first | done | rfl | (simp only [List.length_drop, List.length_take]; rfl)) ?_; (refine (cycle_Begin.calls _ _ y364 _ _ y370 _ _ ([] : List (S69)) 0 0 _ _ y373 7 t376 t379 t382 t383 _ ?side1 ?side2 ?side3 ?side4 ?side5 ?side6 ?side7 ?side8 A1.out).mono ?_); (case side1 => repeat (first | exact (Kd.R_reads' HO366.out).2.2 | (with_reducible refine Kd.C_alloc ?_ _) | (with_reducible refine Kd.C_drewN ?_ _) | (with_reducible refine Kd.C_drew ?_))); (case side2 => exact (Kd.R_reads' HO366.out).2.1); (case side3 => repeat (first | exact (Kd.N_reads' HO372.out).2.2 | (with_reducible refine Kd.C_alloc ?_ _) | (with_reducible refine Kd.C_drewN ?_ _) | (with_reducible refine Kd.C_drew ?_))); (case side4 => exact (Kd.N_reads' HO372.out).2.1); (case side5 => exact Kd.C_nil _ _); (case side6 => exact Nat.le_refl _); (case side7 => repeat (first | exact (Kd.R_reads' HO375.out).2.2 | (with_reducible refine Kd.C_alloc ?_ _) | (with_reducible refine Kd.C_drewN ?_ _) | (with_reducible refine Kd.C_drew ?_))); (case side8 => exact (Kd.R_reads' HO375.out).2.1); rintro e w18 ⟨v377, v380, rfl, ho0, ho1, hb⟩; refine ⟨_, rfl, ?_⟩; have n0_ := Aside0.mk (Kd.R_below (by (with_reducible repeat (first | apply Kd.R_alloc | apply Kd.R_drewN | apply Kd.R_drew)); exact HO366.out) hb); have n1_ := Aside0.mk (Kd.N_mono (Kd.N_told (Kd.N_told (Kd.N_old (by (with_reducible repeat (first | apply Kd.N_alloc | apply Kd.N_drewN | apply Kd.N_drew)); exact HO372.out) hb) (Kd.N_base (Kd.S_N ho0))) (Kd.R_base ho1)) (fun _ h_ => h_.1)); have n2_ := Aside0.mk (Kd.R_below (by (with_reducible repeat (first | apply Kd.R_alloc | apply Kd.R_drewN | apply Kd.R_drew)); exact HO375.out) hb); have n3_ := Aside0.mk (Kd.N_lower (Kd.N_mono (ok' := fun k_ => some k_ ≠ (v380 : Value).ownBlock ∧ some k_ ≠ (.slice Ao16 y364.length co16 : Value).ownBlock ∧ some k_ ≠ (.slice Ao13 y370.length co13 : Value).ownBlock ∧ some k_ ≠ (.slice Ao17 y373.length co17 : Value).ownBlock) (Kd.S_N (Kd.S_bound (Kd.S_apart' ho0 (Kd.R_typed ho1) (by decide)))) (fun k_ hk_ => ⟨hk_.1.2, (Kd.fresh' (Kd.R_lt (by (with_reducible repeat (first | apply Kd.R_alloc | apply Kd.R_drewN | apply Kd.R_drew)); exact HO366.out)) k_ hk_.2.1), (Kd.fresh' (Kd.N_lt (by (with_reducible repeat (first | apply Kd.N_alloc | apply Kd.N_drewN | apply Kd.N_drew)); exact HO372.out)) k_ hk_.2.1), (Kd.fresh' (Kd.R_lt (by (with_reducible repeat (first | apply Kd.R_alloc | apply Kd.R_drewN | apply Kd.R_drew)); exact HO375.out)) k_ hk_.2.1)⟩)) (below_size (by repeat (first | (with_reducible first | exact HB.out | apply below_alloc | apply pw_below_drewN | apply below_drew1) | exact HB.out)))); have n4_ := Aside0.mk (Kd.R_lower ho1 (below_size (by repeat (first | (with_reducible first | exact HB.out | apply below_alloc | apply pw_below_drewN | apply below_drew1) | exact HB.out)))); have n5_ := Aside0.mk (below_step (by repeat (first | (with_reducible first | exact HB.out | apply below_alloc | apply pw_below_drewN | apply below_drew1) | exact HB.out)) hb); clear HO366; clear HO372; clear HO375; clear HB; have HO366 := n0_; have HO372 := n1_; have HO375 := n2_; have HO378 := n3_; have HO381 := n4_; have HB := n5_; clear n0_ n1_ n2_ n3_ n4_ n5_; (try clear hb); (try clear hb2); (try clear hk); (try clear hi); (try clear ho0); (try clear ho1)) | ((with_reducible refine gate_dst (N := 1) rfl ?_); (try (refine gate_guard (by rfl) ?_; dsimp only)); refine box_event ?hg (N := 1) ?hd (cs := #[.slice none 0 0, .slice none 0 0, .int .i64 0, .int .i64 0]) (t := 31) ?hr ?_; (case hd => rfl); (case hg => rfl); (case hr => first | (go_simp; done) | (go_simp; rfl)); intro gb384 hg w19 hbox hb; have n0_ := Aside0.mk (Kd.R_below (by (with_reducible repeat (first | apply Kd.R_alloc | apply Kd.R_drewN | apply Kd.R_drew)); exact HO366.out) hb); have n1_ := Aside0.mk (Kd.N_below (Kd.N_elderB (by (with_reducible repeat (first | apply Kd.N_alloc | apply Kd.N_drewN | apply Kd.N_drew)); exact HO372.out) gb384 (Nat.le_of_eq hg.symm)) hb); have n2_ := Aside0.mk (Kd.R_below (by (with_reducible repeat (first | apply Kd.R_alloc | apply Kd.R_drewN | apply Kd.R_drew)); exact HO375.out) hb); have n3_ := Aside0.mk (Kd.N_below (Kd.N_elderB (by (with_reducible repeat (first | apply Kd.N_alloc | apply Kd.N_drewN | apply Kd.N_drew)); exact HO378.out) gb384 (Nat.le_of_eq hg.symm)) hb); have n4_ := Aside0.mk (Kd.R_below (by (with_reducible repeat (first | apply Kd.R_alloc | apply Kd.R_drewN | apply Kd.R_drew)); exact HO381.out) hb); have n5_ := Aside0.mk (below_step (by repeat (first | (with_reducible first | exact HB.out | apply below_alloc | apply pw_below_drewN | apply below_drew1) | exact HB.out)) hb); have n6_ := Aside0.mk (hbox); have n7_ := Aside0.mk ((by rw [hg]; exact (below_size (by repeat (first | (with_reducible first | exact HB.out | apply below_alloc | apply pw_below_drewN | apply below_drew1) | exact HB.out))) : w.heap.size ≤ gb384)); have n8_ := Aside0.mk ((by rw [hg]; exact (below_size (by repeat (first | (with_reducible first | exact HB.out | apply below_alloc | apply pw_below_drewN | apply below_drew1) | exact HB.out))) : w.heap.size ≤ gb384)); clear HO366; clear HO372; clear HO375; clear HO378; clear HO381; clear HB; have HO366 := n0_; have HO372 := n1_; have HO375 := n2_; have HO378 := n3_; have HO381 := n4_; have HB := n5_; have BK384 := n6_; have GW384 := n7_; have GE384 := n8_; clear n0_ n1_ n2_ n3_ n4_ n5_ n6_ n7_ n8_; clear hb hbox hg; obtain ⟨Ao20, co20, eo20⟩ := Kd.N_slice HO378.out; subst eo20; have hcz21_0 : w19.cell? ⟨gb384, 0, none⟩ = some (.slice none 0 0) := (blk_cell BK384.out 0).trans rfl; have hcz21_1 : w19.cell? ⟨gb384, 1, none⟩ = some (.slice none 0 0) := (blk_cell BK384.out 1).trans rfl; have hcz21_2 : w19.cell? ⟨gb384, 2, none⟩ = some (.int .i64 0) := (blk_cell BK384.out 2).trans rfl; have hcz21_3 : w19.cell? ⟨gb384, 3, none⟩ = some (.int .i64 0) := (blk_cell BK384.out 3).trans rfl; have hfz21_0 := blk_frozen BK384.out 0; have hfz21_1 := blk_frozen BK384.out 1; have hfz21_2 := blk_frozen BK384.out 2; have hfz21_3 := blk_frozen BK384.out 3; obtain ⟨Ao22, co22, eo22⟩ := Kd.R_slice HO381.out; subst eo22) | ((with_reducible refine gate_store (t := 31) (p := 1) rfl ?_); refine store_event (t := 31) (p := 1) (v := ?vo_w23) (w1 := ((((w19.setCell ⟨gb384, 0, none⟩ (.slice Ao20 t376.length co20)).setCell ⟨gb384, 1, none⟩ (.slice Ao22 t379.length co22)).setCell ⟨gb384, 2, none⟩ (.int .i64 t382)).setCell ⟨gb384, 3, none⟩ (.int .i64 t383))) ?hg ?ho ?hn ?hr ?_; (case ho => rfl); (case hg => rfl); (case hn => rfl); (case hr => first | (go_simp; done) | (go_simp; rfl)); intro w23 hw; have n0_ : Aside0 (Kd.R k60 60 w23 w.heap.size (fun _ => True) (.slice Ao16 y364.length co16) y364) := ⟨(by rw [hw]; exact (by (with_reducible repeat (first | apply Kd.R_alloc | apply Kd.R_drewN | apply Kd.R_drew)); exact Kd.R_mono (Kd.R_far (p := ⟨gb384, 3, none⟩) (Kd.R_far (p := ⟨gb384, 2, none⟩) (Kd.R_far (p := ⟨gb384, 1, none⟩) (Kd.R_far (p := ⟨gb384, 0, none⟩) (Kd.R_types HO366.out BK384.out (by decide)) (fun _ hk => hk.2) (.slice Ao20 t376.length co20)) (fun _ hk => hk.2) (.slice Ao22 t379.length co22)) (fun _ hk => hk.2) (.int .i64 t382)) (fun _ hk => hk.2) (.int .i64 t383)) (fun _ hk => trivial)))⟩; have n1_ : Aside0 (Kd.N (Kd.slice 3 (Kd.int .i64)) 32 w23 w.heap.size (fun k_ => some k_ ≠ (.slice Ao16 y364.length co16 : Value).ownBlock ∧ some k_ ≠ (.slice Ao17 y373.length co17 : Value).ownBlock ∧ some k_ ≠ (.slice Ao20 t376.length co20 : Value).ownBlock ∧ some k_ ≠ (.slice Ao22 t379.length co22 : Value).ownBlock ∧ k_ ≠ gb384) (.slice Ao13 y370.length co13) y370) := ⟨(by rw [hw]; exact (by (with_reducible repeat (first | apply Kd.N_alloc | apply Kd.N_drewN | apply Kd.N_drew)); exact Kd.N_mono (Kd.N_far (p := ⟨gb384, 3, none⟩) (Kd.N_far (p := ⟨gb384, 2, none⟩) (Kd.N_far (p := ⟨gb384, 1, none⟩) (Kd.N_far (p := ⟨gb384, 0, none⟩) (Kd.N_mono HO372.out (fun k_ hk => (⟨hk, hk.2⟩ : _ ∧ k_ ≠ gb384))) (fun _ hk => hk.2) (.slice Ao20 t376.length co20)) (fun _ hk => hk.2) (.slice Ao22 t379.length co22)) (fun _ hk => hk.2) (.int .i64 t382)) (fun _ hk => hk.2) (.int .i64 t383)) (fun _ hk => ⟨hk.1.1.1.1.1, ⟨hk.1.1.1.1.2, ⟨hk.1.1.1.2, ⟨hk.1.1.2, hk.1.2⟩⟩⟩⟩)))⟩; have n2_ : Aside0 (Kd.R (Kd.int .i64) 3 w23 w.heap.size (fun _ => True) (.slice Ao17 y373.length co17) y373) := ⟨(by rw [hw]; exact (by (with_reducible repeat (first | apply Kd.R_alloc | apply Kd.R_drewN | apply Kd.R_drew)); exact Kd.R_mono (Kd.R_far (p := ⟨gb384, 3, none⟩) (Kd.R_far (p := ⟨gb384, 2, none⟩) (Kd.R_far (p := ⟨gb384, 1, none⟩) (Kd.R_far (p := ⟨gb384, 0, none⟩) (Kd.R_types HO375.out BK384.out (by decide)) (fun _ hk => hk.2) (.slice Ao20 t376.length co20)) (fun _ hk => hk.2) (.slice Ao22 t379.length co22)) (fun _ hk => hk.2) (.int .i64 t382)) (fun _ hk => hk.2) (.int .i64 t383)) (fun _ hk => trivial)))⟩; have n3_ : Aside0 (Kd.N (Kd.slice 3 (Kd.int .i64)) 32 w23 w.heap.size (fun k_ => some k_ ≠ (.slice Ao16 y364.length co16 : Value).ownBlock ∧ some k_ ≠ (.slice Ao13 y370.length co13 : Value).ownBlock ∧ some k_ ≠ (.slice Ao17 y373.length co17 : Value).ownBlock ∧ some k_ ≠ (.slice Ao22 t379.length co22 : Value).ownBlock ∧ k_ ≠ gb384) (.slice Ao20 t376.length co20) t376) := ⟨(by rw [hw]; exact (by (with_reducible repeat (first | apply Kd.N_alloc | apply Kd.N_drewN | apply Kd.N_drew)); exact Kd.N_mono (Kd.N_far (p := ⟨gb384, 3, none⟩) (Kd.N_far (p := ⟨gb384, 2, none⟩) (Kd.N_far (p := ⟨gb384, 1, none⟩) (Kd.N_far (p := ⟨gb384, 0, none⟩) (Kd.N_mono HO378.out (fun k_ hk => (⟨hk, hk.2⟩ : _ ∧ k_ ≠ gb384))) (fun _ hk => hk.2) (.slice Ao20 t376.length co20)) (fun _ hk => hk.2) (.slice Ao22 t379.length co22)) (fun _ hk => hk.2) (.int .i64 t382)) (fun _ hk => hk.2) (.int .i64 t383)) (fun _ hk => ⟨hk.1.1.2.1, ⟨hk.1.1.2.2.1, ⟨hk.1.1.2.2.2, ⟨hk.1.1.1, hk.1.2⟩⟩⟩⟩)))⟩; have n4_ : Aside0 (Kd.R k69 69 w23 w.heap.size (fun _ => True) (.slice Ao22 t379.length co22) t379) := ⟨(by rw [hw]; exact (by (with_reducible repeat (first | apply Kd.R_alloc | apply Kd.R_drewN | apply Kd.R_drew)); exact Kd.R_mono (Kd.R_far (p := ⟨gb384, 3, none⟩) (Kd.R_far (p := ⟨gb384, 2, none⟩) (Kd.R_far (p := ⟨gb384, 1, none⟩) (Kd.R_far (p := ⟨gb384, 0, none⟩) (Kd.R_types HO381.out BK384.out (by decide)) (fun _ hk => hk.2) (.slice Ao20 t376.length co20)) (fun _ hk => hk.2) (.slice Ao22 t379.length co22)) (fun _ hk => hk.2) (.int .i64 t382)) (fun _ hk => hk.2) (.int .i64 t383)) (fun _ hk => trivial)))⟩; have n5_ : Aside0 (w23.heap[gb384]? = some (.cells #[.slice Ao20 t376.length co20, .slice Ao22 t379.length co22, .int .i64 t382, .int .i64 t383] 31 (0, 0))) := ⟨(by rw [hw]; exact (by (with_reducible repeat (first | refine blk_drewN ?_ _ | refine blk_drew ?_ | refine blk_alloc ?_ _)); refine blk_put (cs := #[.slice Ao20 t376.length co20, .slice Ao22 t379.length co22, .int .i64 t382, .int .i64 0]) ?_ 3 _ rfl; (with_reducible repeat (first | refine blk_drewN ?_ _ | refine blk_drew ?_ | refine blk_alloc ?_ _)); refine blk_put (cs := #[.slice Ao20 t376.length co20, .slice Ao22 t379.length co22, .int .i64 0, .int .i64 0]) ?_ 2 _ rfl; (with_reducible repeat (first | refine blk_drewN ?_ _ | refine blk_drew ?_ | refine blk_alloc ?_ _)); refine blk_put (cs := #[.slice Ao20 t376.length co20, .slice none 0 0, .int .i64 0, .int .i64 0]) ?_ 1 _ rfl; (with_reducible repeat (first | refine blk_drewN ?_ _ | refine blk_drew ?_ | refine blk_alloc ?_ _)); refine blk_put (cs := #[.slice none 0 0, .slice none 0 0, .int .i64 0, .int .i64 0]) ?_ 0 _ rfl; (with_reducible repeat (first | refine blk_drewN ?_ _ | refine blk_drew ?_ | refine blk_alloc ?_ _)); exact BK384.out))⟩; have n6_ : Aside0 (Below w.heap.size w w23) := ⟨(by rw [hw]; exact (by repeat (first | (with_reducible first | exact HB.out | apply below_alloc | apply pw_below_drewN | apply below_drew1 | refine below_set ?_ GE384.out) | exact HB.out)))⟩; clear hw; clear HO366; clear HO372; clear HO375; clear HO378; clear HO381; clear BK384; clear HB; have HO366 := n0_; have HO372 := n1_; have HO375 := n2_; have HO378 := n3_; have HO381 := n4_; have BK384 := n5_; have HB := n6_; clear n0_ n1_ n2_ n3_ n4_ n5_ n6_; have hcz24_0 : w23.cell? ⟨gb384, 0, none⟩ = some (.slice Ao20 t376.length co20) := (blk_cell BK384.out 0).trans rfl; have hcz24_1 : w23.cell? ⟨gb384, 1, none⟩ = some (.slice Ao22 t379.length co22) := (blk_cell BK384.out 1).trans rfl; have hcz24_2 : w23.cell? ⟨gb384, 2, none⟩ = some (.int .i64 t382) := (blk_cell BK384.out 2).trans rfl; have hcz24_3 : w23.cell? ⟨gb384, 3, none⟩ = some (.int .i64 t383) := (blk_cell BK384.out 3).trans rfl; have hfz24_0 := blk_frozen BK384.out 0; have hfz24_1 := blk_frozen BK384.out 1; have hfz24_2 := blk_frozen BK384.out 2; have hfz24_3 := blk_frozen BK384.out 3; have p385 : 0 ≤ (0 : Int) := (by omega); have q385 : 0 < (t376.length : Int) := of_decide_eq_true (by first | (with_reducible assumption) | assumption); obtain ⟨ad385, A385_0, c385_0, e385, hx385_0, hl385_0, hi385_0⟩ := at_L1 (Kd.N_reads' HO378.out).2.2 0 p385 q385; cases e385; obtain ⟨ce385, hce385, hMe385, hcc385⟩ := Kd.N_get HO378.out [] 0 p385 (by first | exact q385 | exact of_decide_eq_true (by first | (with_reducible assumption) | assumption) | (have e_ := (Kd.N_reads' HO378.out).1; omega)); obtain ⟨ua385_0, uc385_0, rfl, ul385_0, ge385_0⟩ := Kd.FK_slice_open hMe385; have hv385_0 := hcc385 0 _ rfl; rw [Nat.add_zero, show ((Kd.slice 3 (Kd.int .i64))).sz = 1 from rfl, Nat.mul_one] at hv385_0; replace hv385_0 := Option.some.inj (hv385_0.symm.trans hx385_0); injection hv385_0 with hva_ hvn_ hvc_; rw [hva_] at ge385_0; rw [hvc_] at ul385_0; have HL385_0 := Aside0.mk (show Kd.V (Kd.int .i64) 3 _ w.heap.size _ _ (rd_L1 t376 0) from Kd.V_mk ul385_0 ge385_0); clear hva_ hvn_ hvc_ ge385_0 ul385_0; clear hcc385 hce385; have qi385 : (0 < t376.length) = True := eq_true (by omega); (try rw [show ((0 : Int)).toNat = 0 from rfl] at hx385_0); (try rw [Addr.add_zero'] at hx385_0); have HR385_0 := Aside0.mk hi385_0; have HC385_0 := Aside0.mk hl385_0; clear hi385_0 hl385_0; replace p385 := eq_true p385; replace q385 := eq_true q385; have p386 : 0 ≤ (0 : Int) := (by omega); have q386 : 0 < ((rd_L1 t376 0).length : Int) := of_decide_eq_true (by first | (with_reducible assumption) | assumption); obtain ⟨ad386, e386, hx386_0⟩ := Kd.at_int (by repeat (first | (with_reducible exact HR385_0.out) | (with_reducible refine Kd.C_alloc ?_ _) | (with_reducible refine Kd.C_drewN ?_ _) | (with_reducible refine Kd.C_drew ?_) | exact HR385_0.out)) 0 p386 q386; cases e386; have qi386 : (0 < (rd_L1 t376 0).length) = True := eq_true (by omega); (try rw [show ((0 : Int)).toNat = 0 from rfl] at hx386_0); (try rw [Addr.add_zero'] at hx386_0); replace p386 := eq_true p386; replace q386 := eq_true q386))
          go_ret
          exact ⟨by first | rfl | (simp [errW_none, errW_some] <;> rfl) | (simp [*, errW_none, errW_some] <;> rfl), by repeat (first | (with_reducible first | exact HB.out | apply below_alloc | apply pw_below_drewN | apply below_drew1 | refine below_set ?_ GE384.out) | exact HB.out)⟩
        · rw [if_neg c5] at H
          exact absurd H (by simp)
      · rw [if_neg c4] at H
        exact absurd H (by simp)
    · rw [if_neg c3] at H
      have c3b0 : ((t376.length : Int) == 1) = false := beq_eq_false_iff_ne.mpr c3
      have c3b1 : ((t376.length : Int) != 1) = true := bne_iff_ne.mpr c3
      obtain rfl := Option.some.inj H
      go_enter Try.func10, Try.ntmps10
      go_wp2_with (first | ((with_reducible refine gate_dst (N := 3) rfl ?_); (try (refine gate_guard (by rfl) ?_; dsimp only)); refine Kd.R_lit k60 _ 60 ?hg (N := 3) ?hd (xs := ([(⟨(⟨#[]⟩ : ByteArray), 1, 1, 1, 0⟩ : S60)] : List (S60))) (inner := [.string (⟨#[]⟩ : ByteArray), .int .i64 1, .int .i64 1, .int .i64 1, .int .i64 0]) (ok := fun _ => True) (okp := fun _ => True) ?hr ?hp (fun _ hk => hk) trivial (Below.refl _ _) (Nat.le_refl _) (by simp) ?_; (case hd => rfl); (case hg => rfl); (case hr => first | (go_simp; done) | (go_simp; rfl)); (case hp => exact (Reps.c5 (show Kd.M k60 _ _ _ (⟨(⟨#[]⟩ : ByteArray), 1, 1, 1, 0⟩ : S60) [.string (⟨#[]⟩ : ByteArray), .int .i64 1, .int .i64 1, .int .i64 1, .int .i64 0] from (k60_mkM _ _ _ (⟨(⟨#[]⟩ : ByteArray), 1, 1, 1, 0⟩ : S60) )) (Reps.none _ _))); intro v365 w25 ho26 hb hg_ hnew_; clear hg_ hnew_; (first | rw [← Ny364.out] at ho26 | (simp only [Int.reduceToNat] at ho26; rw [← Ny364.out] at ho26)); have n0_ := Aside0.mk (Kd.R_lower ho26 (below_size (by repeat (first | (with_reducible first | exact HB.out | apply below_alloc | apply pw_below_drewN | apply below_drew1) | exact HB.out)))); have n1_ := Aside0.mk (below_step (by repeat (first | (with_reducible first | exact HB.out | apply below_alloc | apply pw_below_drewN | apply below_drew1) | exact HB.out)) hb); clear HB; have HO366 := n0_; have HB := n1_; clear n0_ n1_; clear hb ho26) | ((with_reducible refine gate_dst (N := 4) rfl ?_); (try (refine gate_guard (by rfl) ?_; dsimp only)); refine Kd.R_lit (Kd.int .i64) _ 3 ?hg (N := 4) ?hd (xs := ([0] : List Int)) (inner := [.int .i64 0]) (ok := fun _ => True) (okp := fun _ => True) ?hr ?hp (fun _ hk => hk) trivial (Below.refl _ _) (Nat.le_refl _) (by simp) ?_; (case hd => rfl); (case hg => rfl); (case hr => first | (go_simp; done) | (go_simp; rfl)); (case hp => exact (Reps.one (show Kd.M (Kd.int .i64) _ _ _ 0 [.int .i64 0] from rfl) (Reps.none _ _))); intro v368 w27 ho28 hb hg_ hnew_; clear hg_ hnew_; (first | rw [← Ny367.out] at ho28 | (simp only [Int.reduceToNat] at ho28; rw [← Ny367.out] at ho28)); have n0_ := Aside0.mk (Kd.R_below (by (with_reducible repeat (first | apply Kd.R_alloc | apply Kd.R_drewN | apply Kd.R_drew)); exact HO366.out) hb); have n1_ := Aside0.mk (Kd.R_lower ho28 (below_size (by repeat (first | (with_reducible first | exact HB.out | apply below_alloc | apply pw_below_drewN | apply below_drew1) | exact HB.out)))); have n2_ := Aside0.mk (below_step (by repeat (first | (with_reducible first | exact HB.out | apply below_alloc | apply pw_below_drewN | apply below_drew1) | exact HB.out)) hb); clear HO366; clear HB; have HO366 := n0_; have HO369 := n1_; have HB := n2_; clear n0_ n1_ n2_; clear hb ho28; obtain ⟨Ao29, co29, eo29⟩ := Kd.R_slice HO369.out; subst eo29) | ((with_reducible refine gate_dst (N := 5) rfl ?_); (try (refine gate_guard (by rfl) ?_; dsimp only)); refine Kd.N_lit (Kd.slice 3 (Kd.int .i64)) _ 32 ?hg (N' := 5) ?hd (xs := ([y367] : List (List Int))) (inner := [.slice Ao29 y367.length co29]) (ok := (fun k_ => some k_ ≠ (v365 : Value).ownBlock)) (okp := (fun k_ => some k_ ≠ (v365 : Value).ownBlock)) ?hr ?hp (fun _ hk => hk) ((show ∀ k_, w27.heap.size ≤ k_ → (fun k_ => some k_ ≠ (v365 : Value).ownBlock) k_ from fun k_ hk => Kd.fresh' (Kd.R_lt (by (with_reducible repeat (first | apply Kd.R_alloc | apply Kd.R_drewN | apply Kd.R_drew)); exact HO366.out)) k_ hk) _ (Nat.le_refl _)) (Below.refl _ _) (Nat.le_refl _) (by simp) ?_; (case hd => rfl); (case hg => rfl); (case hr => first | (go_simp; done) | (go_simp; rfl)); (case hp => exact (Reps.one (show Kd.FK (Kd.slice 3 (Kd.int .i64)) _ _ y367 [.slice Ao29 y367.length co29] from (Kd.FK_slice_mk (Kd.R_reads' (Kd.R_mono (ok' := (fun k_ => some k_ ≠ (v365 : Value).ownBlock)) (Kd.R_apart' (HO369.out) (Kd.R_typed HO366.out) (by decide)) (fun k_ hk => hk.2))).2.1 (Kd.R_F (Kd.R_mono (ok' := (fun k_ => some k_ ≠ (v365 : Value).ownBlock)) (Kd.R_apart' (HO369.out) (Kd.R_typed HO366.out) (by decide)) (fun k_ hk => hk.2))))) (Reps.none _ _))); intro v371 w30 ho31 hb hg_ hnew_; clear hg_ hnew_; (first | rw [← Ny370.out] at ho31 | (simp only [Int.reduceToNat] at ho31; rw [← Ny370.out] at ho31)); have n0_ := Aside0.mk (Kd.R_below (by (with_reducible repeat (first | apply Kd.R_alloc | apply Kd.R_drewN | apply Kd.R_drew)); exact HO366.out) hb); have n1_ := Aside0.mk (Kd.N_lower ho31 (below_size (by repeat (first | (with_reducible first | exact HB.out | apply below_alloc | apply pw_below_drewN | apply below_drew1) | exact HB.out)))); have n2_ := Aside0.mk (below_step (by repeat (first | (with_reducible first | exact HB.out | apply below_alloc | apply pw_below_drewN | apply below_drew1) | exact HB.out)) hb); clear HO366; clear HB; clear HO369; have HO366 := n0_; have HO372 := n1_; have HB := n2_; clear n0_ n1_ n2_; clear hb ho31; obtain ⟨Ao32, co32, eo32⟩ := Kd.N_slice HO372.out; subst eo32) | ((with_reducible refine gate_dst (N := 7) rfl ?_); (try (refine gate_guard (by rfl) ?_; dsimp only)); refine Kd.R_lit (Kd.int .i64) _ 3 ?hg (N := 7) ?hd (xs := ([5] : List Int)) (inner := [.int .i64 5]) (ok := fun _ => True) (okp := fun _ => True) ?hr ?hp (fun _ hk => hk) trivial (Below.refl _ _) (Nat.le_refl _) (by simp) ?_; (case hd => rfl); (case hg => rfl); (case hr => first | (go_simp; done) | (go_simp; rfl)); (case hp => exact (Reps.one (show Kd.M (Kd.int .i64) _ _ _ 5 [.int .i64 5] from rfl) (Reps.none _ _))); intro v374 w33 ho34 hb hg_ hnew_; clear hg_ hnew_; (first | rw [← Ny373.out] at ho34 | (simp only [Int.reduceToNat] at ho34; rw [← Ny373.out] at ho34)); have n0_ := Aside0.mk (Kd.R_below (by (with_reducible repeat (first | apply Kd.R_alloc | apply Kd.R_drewN | apply Kd.R_drew)); exact HO366.out) hb); have n1_ := Aside0.mk (Kd.N_elder' (by (with_reducible repeat (first | apply Kd.N_alloc | apply Kd.N_drewN | apply Kd.N_drew)); exact HO372.out) (Kd.R_base ho34) hb); have n2_ := Aside0.mk (Kd.R_lower ho34 (below_size (by repeat (first | (with_reducible first | exact HB.out | apply below_alloc | apply pw_below_drewN | apply below_drew1) | exact HB.out)))); have n3_ := Aside0.mk (below_step (by repeat (first | (with_reducible first | exact HB.out | apply below_alloc | apply pw_below_drewN | apply below_drew1) | exact HB.out)) hb); clear HO366; clear HO372; clear HB; have HO366 := n0_; have HO372 := n1_; have HO375 := n2_; have HB := n3_; clear n0_ n1_ n2_ n3_; clear hb ho34; obtain ⟨Ao35, co35, eo35⟩ := Kd.R_slice HO366.out; subst eo35; obtain ⟨Ao36, co36, eo36⟩ := Kd.R_slice HO375.out; subst eo36) | ((with_reducible refine gate_callee (f := 13) rfl ?_); refine goesL_ (some 8) rfl rfl Try.func13 (by kernel_rfl) rfl #[.slice Ao35 y364.length co35, .agg #[.slice Ao32 y370.length co32, .slice none 0 0, .int .i64 0, .int .i64 0], .slice Ao36 y373.length co36, .int .i64 7] rfl (by (try simp only [List.map_toArray, List.map_cons, List.map_nil]); first | done | rfl | (simp only [List.length_drop, List.length_take]; rfl)) ?_; (refine (cycle_Begin.calls _ _ y364 _ _ y370 _ _ ([] : List (S69)) 0 0 _ _ y373 7 t376 t379 t382 t383 _ ?side1 ?side2 ?side3 ?side4 ?side5 ?side6 ?side7 ?side8 A1.out).mono ?_); (case side1 => repeat (first | exact (Kd.R_reads' HO366.out).2.2 | (with_reducible refine Kd.C_alloc ?_ _) | (with_reducible refine Kd.C_drewN ?_ _) | (with_reducible refine Kd.C_drew ?_))); (case side2 => exact (Kd.R_reads' HO366.out).2.1); (case side3 => repeat (first | exact (Kd.N_reads' HO372.out).2.2 | (with_reducible refine Kd.C_alloc ?_ _) | (with_reducible refine Kd.C_drewN ?_ _) | (with_reducible refine Kd.C_drew ?_))); (case side4 => exact (Kd.N_reads' HO372.out).2.1); (case side5 => exact Kd.C_nil _ _); (case side6 => exact Nat.le_refl _); (case side7 => repeat (first | exact (Kd.R_reads' HO375.out).2.2 | (with_reducible refine Kd.C_alloc ?_ _) | (with_reducible refine Kd.C_drewN ?_ _) | (with_reducible refine Kd.C_drew ?_))); (case side8 => exact (Kd.R_reads' HO375.out).2.1); rintro e w37 ⟨v377, v380, rfl, ho0, ho1, hb⟩; refine ⟨_, rfl, ?_⟩; have n0_ := Aside0.mk (Kd.R_below (by (with_reducible repeat (first | apply Kd.R_alloc | apply Kd.R_drewN | apply Kd.R_drew)); exact HO366.out) hb); have n1_ := Aside0.mk (Kd.N_mono (Kd.N_told (Kd.N_told (Kd.N_old (by (with_reducible repeat (first | apply Kd.N_alloc | apply Kd.N_drewN | apply Kd.N_drew)); exact HO372.out) hb) (Kd.N_base (Kd.S_N ho0))) (Kd.R_base ho1)) (fun _ h_ => h_.1)); have n2_ := Aside0.mk (Kd.R_below (by (with_reducible repeat (first | apply Kd.R_alloc | apply Kd.R_drewN | apply Kd.R_drew)); exact HO375.out) hb); have n3_ := Aside0.mk (Kd.N_lower (Kd.N_mono (ok' := fun k_ => some k_ ≠ (v380 : Value).ownBlock ∧ some k_ ≠ (.slice Ao35 y364.length co35 : Value).ownBlock ∧ some k_ ≠ (.slice Ao32 y370.length co32 : Value).ownBlock ∧ some k_ ≠ (.slice Ao36 y373.length co36 : Value).ownBlock) (Kd.S_N (Kd.S_bound (Kd.S_apart' ho0 (Kd.R_typed ho1) (by decide)))) (fun k_ hk_ => ⟨hk_.1.2, (Kd.fresh' (Kd.R_lt (by (with_reducible repeat (first | apply Kd.R_alloc | apply Kd.R_drewN | apply Kd.R_drew)); exact HO366.out)) k_ hk_.2.1), (Kd.fresh' (Kd.N_lt (by (with_reducible repeat (first | apply Kd.N_alloc | apply Kd.N_drewN | apply Kd.N_drew)); exact HO372.out)) k_ hk_.2.1), (Kd.fresh' (Kd.R_lt (by (with_reducible repeat (first | apply Kd.R_alloc | apply Kd.R_drewN | apply Kd.R_drew)); exact HO375.out)) k_ hk_.2.1)⟩)) (below_size (by repeat (first | (with_reducible first | exact HB.out | apply below_alloc | apply pw_below_drewN | apply below_drew1) | exact HB.out)))); have n4_ := Aside0.mk (Kd.R_lower ho1 (below_size (by repeat (first | (with_reducible first | exact HB.out | apply below_alloc | apply pw_below_drewN | apply below_drew1) | exact HB.out)))); have n5_ := Aside0.mk (below_step (by repeat (first | (with_reducible first | exact HB.out | apply below_alloc | apply pw_below_drewN | apply below_drew1) | exact HB.out)) hb); clear HO366; clear HO372; clear HO375; clear HB; have HO366 := n0_; have HO372 := n1_; have HO375 := n2_; have HO378 := n3_; have HO381 := n4_; have HB := n5_; clear n0_ n1_ n2_ n3_ n4_ n5_; (try clear hb); (try clear hb2); (try clear hk); (try clear hi); (try clear ho0); (try clear ho1)) | ((with_reducible refine gate_dst (N := 1) rfl ?_); (try (refine gate_guard (by rfl) ?_; dsimp only)); refine box_event ?hg (N := 1) ?hd (cs := #[.slice none 0 0, .slice none 0 0, .int .i64 0, .int .i64 0]) (t := 31) ?hr ?_; (case hd => rfl); (case hg => rfl); (case hr => first | (go_simp; done) | (go_simp; rfl)); intro gb384 hg w38 hbox hb; have n0_ := Aside0.mk (Kd.R_below (by (with_reducible repeat (first | apply Kd.R_alloc | apply Kd.R_drewN | apply Kd.R_drew)); exact HO366.out) hb); have n1_ := Aside0.mk (Kd.N_below (Kd.N_elderB (by (with_reducible repeat (first | apply Kd.N_alloc | apply Kd.N_drewN | apply Kd.N_drew)); exact HO372.out) gb384 (Nat.le_of_eq hg.symm)) hb); have n2_ := Aside0.mk (Kd.R_below (by (with_reducible repeat (first | apply Kd.R_alloc | apply Kd.R_drewN | apply Kd.R_drew)); exact HO375.out) hb); have n3_ := Aside0.mk (Kd.N_below (Kd.N_elderB (by (with_reducible repeat (first | apply Kd.N_alloc | apply Kd.N_drewN | apply Kd.N_drew)); exact HO378.out) gb384 (Nat.le_of_eq hg.symm)) hb); have n4_ := Aside0.mk (Kd.R_below (by (with_reducible repeat (first | apply Kd.R_alloc | apply Kd.R_drewN | apply Kd.R_drew)); exact HO381.out) hb); have n5_ := Aside0.mk (below_step (by repeat (first | (with_reducible first | exact HB.out | apply below_alloc | apply pw_below_drewN | apply below_drew1) | exact HB.out)) hb); have n6_ := Aside0.mk (hbox); have n7_ := Aside0.mk ((by rw [hg]; exact (below_size (by repeat (first | (with_reducible first | exact HB.out | apply below_alloc | apply pw_below_drewN | apply below_drew1) | exact HB.out))) : w.heap.size ≤ gb384)); have n8_ := Aside0.mk ((by rw [hg]; exact (below_size (by repeat (first | (with_reducible first | exact HB.out | apply below_alloc | apply pw_below_drewN | apply below_drew1) | exact HB.out))) : w.heap.size ≤ gb384)); clear HO366; clear HO372; clear HO375; clear HO378; clear HO381; clear HB; have HO366 := n0_; have HO372 := n1_; have HO375 := n2_; have HO378 := n3_; have HO381 := n4_; have HB := n5_; have BK384 := n6_; have GW384 := n7_; have GE384 := n8_; clear n0_ n1_ n2_ n3_ n4_ n5_ n6_ n7_ n8_; clear hb hbox hg; obtain ⟨Ao39, co39, eo39⟩ := Kd.N_slice HO378.out; subst eo39; have hcz40_0 : w38.cell? ⟨gb384, 0, none⟩ = some (.slice none 0 0) := (blk_cell BK384.out 0).trans rfl; have hcz40_1 : w38.cell? ⟨gb384, 1, none⟩ = some (.slice none 0 0) := (blk_cell BK384.out 1).trans rfl; have hcz40_2 : w38.cell? ⟨gb384, 2, none⟩ = some (.int .i64 0) := (blk_cell BK384.out 2).trans rfl; have hcz40_3 : w38.cell? ⟨gb384, 3, none⟩ = some (.int .i64 0) := (blk_cell BK384.out 3).trans rfl; have hfz40_0 := blk_frozen BK384.out 0; have hfz40_1 := blk_frozen BK384.out 1; have hfz40_2 := blk_frozen BK384.out 2; have hfz40_3 := blk_frozen BK384.out 3; obtain ⟨Ao41, co41, eo41⟩ := Kd.R_slice HO381.out; subst eo41))
      go_ret
      exact ⟨by first | rfl | (simp [errW_none, errW_some] <;> rfl) | (simp [*, errW_none, errW_some] <;> rfl), by repeat (first | (with_reducible first | exact HB.out | apply below_alloc | apply pw_below_drewN | apply below_drew1 | refine below_set ?_ GE384.out) | exact HB.out)⟩
  · rw [if_neg c2] at H
    have c2b0 : (t382 == 7) = false := beq_eq_false_iff_ne.mpr c2
    have c2b1 : (t382 != 7) = true := bne_iff_ne.mpr c2
    obtain rfl := Option.some.inj H
    go_enter Try.func10, Try.ntmps10
    go_wp2_with (first | ((with_reducible refine gate_dst (N := 3) rfl ?_); (try (refine gate_guard (by rfl) ?_; dsimp only)); refine Kd.R_lit k60 _ 60 ?hg (N := 3) ?hd (xs := ([(⟨(⟨#[]⟩ : ByteArray), 1, 1, 1, 0⟩ : S60)] : List (S60))) (inner := [.string (⟨#[]⟩ : ByteArray), .int .i64 1, .int .i64 1, .int .i64 1, .int .i64 0]) (ok := fun _ => True) (okp := fun _ => True) ?hr ?hp (fun _ hk => hk) trivial (Below.refl _ _) (Nat.le_refl _) (by simp) ?_; (case hd => rfl); (case hg => rfl); (case hr => first | (go_simp; done) | (go_simp; rfl)); (case hp => exact (Reps.c5 (show Kd.M k60 _ _ _ (⟨(⟨#[]⟩ : ByteArray), 1, 1, 1, 0⟩ : S60) [.string (⟨#[]⟩ : ByteArray), .int .i64 1, .int .i64 1, .int .i64 1, .int .i64 0] from (k60_mkM _ _ _ (⟨(⟨#[]⟩ : ByteArray), 1, 1, 1, 0⟩ : S60) )) (Reps.none _ _))); intro v365 w42 ho43 hb hg_ hnew_; clear hg_ hnew_; (first | rw [← Ny364.out] at ho43 | (simp only [Int.reduceToNat] at ho43; rw [← Ny364.out] at ho43)); have n0_ := Aside0.mk (Kd.R_lower ho43 (below_size (by repeat (first | (with_reducible first | exact HB.out | apply below_alloc | apply pw_below_drewN | apply below_drew1) | exact HB.out)))); have n1_ := Aside0.mk (below_step (by repeat (first | (with_reducible first | exact HB.out | apply below_alloc | apply pw_below_drewN | apply below_drew1) | exact HB.out)) hb); clear HB; have HO366 := n0_; have HB := n1_; clear n0_ n1_; clear hb ho43) | ((with_reducible refine gate_dst (N := 4) rfl ?_); (try (refine gate_guard (by rfl) ?_; dsimp only)); refine Kd.R_lit (Kd.int .i64) _ 3 ?hg (N := 4) ?hd (xs := ([0] : List Int)) (inner := [.int .i64 0]) (ok := fun _ => True) (okp := fun _ => True) ?hr ?hp (fun _ hk => hk) trivial (Below.refl _ _) (Nat.le_refl _) (by simp) ?_; (case hd => rfl); (case hg => rfl); (case hr => first | (go_simp; done) | (go_simp; rfl)); (case hp => exact (Reps.one (show Kd.M (Kd.int .i64) _ _ _ 0 [.int .i64 0] from rfl) (Reps.none _ _))); intro v368 w44 ho45 hb hg_ hnew_; clear hg_ hnew_; (first | rw [← Ny367.out] at ho45 | (simp only [Int.reduceToNat] at ho45; rw [← Ny367.out] at ho45)); have n0_ := Aside0.mk (Kd.R_below (by (with_reducible repeat (first | apply Kd.R_alloc | apply Kd.R_drewN | apply Kd.R_drew)); exact HO366.out) hb); have n1_ := Aside0.mk (Kd.R_lower ho45 (below_size (by repeat (first | (with_reducible first | exact HB.out | apply below_alloc | apply pw_below_drewN | apply below_drew1) | exact HB.out)))); have n2_ := Aside0.mk (below_step (by repeat (first | (with_reducible first | exact HB.out | apply below_alloc | apply pw_below_drewN | apply below_drew1) | exact HB.out)) hb); clear HO366; clear HB; have HO366 := n0_; have HO369 := n1_; have HB := n2_; clear n0_ n1_ n2_; clear hb ho45; obtain ⟨Ao46, co46, eo46⟩ := Kd.R_slice HO369.out; subst eo46) | ((with_reducible refine gate_dst (N := 5) rfl ?_); (try (refine gate_guard (by rfl) ?_; dsimp only)); refine Kd.N_lit (Kd.slice 3 (Kd.int .i64)) _ 32 ?hg (N' := 5) ?hd (xs := ([y367] : List (List Int))) (inner := [.slice Ao46 y367.length co46]) (ok := (fun k_ => some k_ ≠ (v365 : Value).ownBlock)) (okp := (fun k_ => some k_ ≠ (v365 : Value).ownBlock)) ?hr ?hp (fun _ hk => hk) ((show ∀ k_, w44.heap.size ≤ k_ → (fun k_ => some k_ ≠ (v365 : Value).ownBlock) k_ from fun k_ hk => Kd.fresh' (Kd.R_lt (by (with_reducible repeat (first | apply Kd.R_alloc | apply Kd.R_drewN | apply Kd.R_drew)); exact HO366.out)) k_ hk) _ (Nat.le_refl _)) (Below.refl _ _) (Nat.le_refl _) (by simp) ?_; (case hd => rfl); (case hg => rfl); (case hr => first | (go_simp; done) | (go_simp; rfl)); (case hp => exact (Reps.one (show Kd.FK (Kd.slice 3 (Kd.int .i64)) _ _ y367 [.slice Ao46 y367.length co46] from (Kd.FK_slice_mk (Kd.R_reads' (Kd.R_mono (ok' := (fun k_ => some k_ ≠ (v365 : Value).ownBlock)) (Kd.R_apart' (HO369.out) (Kd.R_typed HO366.out) (by decide)) (fun k_ hk => hk.2))).2.1 (Kd.R_F (Kd.R_mono (ok' := (fun k_ => some k_ ≠ (v365 : Value).ownBlock)) (Kd.R_apart' (HO369.out) (Kd.R_typed HO366.out) (by decide)) (fun k_ hk => hk.2))))) (Reps.none _ _))); intro v371 w47 ho48 hb hg_ hnew_; clear hg_ hnew_; (first | rw [← Ny370.out] at ho48 | (simp only [Int.reduceToNat] at ho48; rw [← Ny370.out] at ho48)); have n0_ := Aside0.mk (Kd.R_below (by (with_reducible repeat (first | apply Kd.R_alloc | apply Kd.R_drewN | apply Kd.R_drew)); exact HO366.out) hb); have n1_ := Aside0.mk (Kd.N_lower ho48 (below_size (by repeat (first | (with_reducible first | exact HB.out | apply below_alloc | apply pw_below_drewN | apply below_drew1) | exact HB.out)))); have n2_ := Aside0.mk (below_step (by repeat (first | (with_reducible first | exact HB.out | apply below_alloc | apply pw_below_drewN | apply below_drew1) | exact HB.out)) hb); clear HO366; clear HB; clear HO369; have HO366 := n0_; have HO372 := n1_; have HB := n2_; clear n0_ n1_ n2_; clear hb ho48; obtain ⟨Ao49, co49, eo49⟩ := Kd.N_slice HO372.out; subst eo49) | ((with_reducible refine gate_dst (N := 7) rfl ?_); (try (refine gate_guard (by rfl) ?_; dsimp only)); refine Kd.R_lit (Kd.int .i64) _ 3 ?hg (N := 7) ?hd (xs := ([5] : List Int)) (inner := [.int .i64 5]) (ok := fun _ => True) (okp := fun _ => True) ?hr ?hp (fun _ hk => hk) trivial (Below.refl _ _) (Nat.le_refl _) (by simp) ?_; (case hd => rfl); (case hg => rfl); (case hr => first | (go_simp; done) | (go_simp; rfl)); (case hp => exact (Reps.one (show Kd.M (Kd.int .i64) _ _ _ 5 [.int .i64 5] from rfl) (Reps.none _ _))); intro v374 w50 ho51 hb hg_ hnew_; clear hg_ hnew_; (first | rw [← Ny373.out] at ho51 | (simp only [Int.reduceToNat] at ho51; rw [← Ny373.out] at ho51)); have n0_ := Aside0.mk (Kd.R_below (by (with_reducible repeat (first | apply Kd.R_alloc | apply Kd.R_drewN | apply Kd.R_drew)); exact HO366.out) hb); have n1_ := Aside0.mk (Kd.N_elder' (by (with_reducible repeat (first | apply Kd.N_alloc | apply Kd.N_drewN | apply Kd.N_drew)); exact HO372.out) (Kd.R_base ho51) hb); have n2_ := Aside0.mk (Kd.R_lower ho51 (below_size (by repeat (first | (with_reducible first | exact HB.out | apply below_alloc | apply pw_below_drewN | apply below_drew1) | exact HB.out)))); have n3_ := Aside0.mk (below_step (by repeat (first | (with_reducible first | exact HB.out | apply below_alloc | apply pw_below_drewN | apply below_drew1) | exact HB.out)) hb); clear HO366; clear HO372; clear HB; have HO366 := n0_; have HO372 := n1_; have HO375 := n2_; have HB := n3_; clear n0_ n1_ n2_ n3_; clear hb ho51; obtain ⟨Ao52, co52, eo52⟩ := Kd.R_slice HO366.out; subst eo52; obtain ⟨Ao53, co53, eo53⟩ := Kd.R_slice HO375.out; subst eo53) | ((with_reducible refine gate_callee (f := 13) rfl ?_); refine goesL_ (some 8) rfl rfl Try.func13 (by kernel_rfl) rfl #[.slice Ao52 y364.length co52, .agg #[.slice Ao49 y370.length co49, .slice none 0 0, .int .i64 0, .int .i64 0], .slice Ao53 y373.length co53, .int .i64 7] rfl (by (try simp only [List.map_toArray, List.map_cons, List.map_nil]); first | done | rfl | (simp only [List.length_drop, List.length_take]; rfl)) ?_; (refine (cycle_Begin.calls _ _ y364 _ _ y370 _ _ ([] : List (S69)) 0 0 _ _ y373 7 t376 t379 t382 t383 _ ?side1 ?side2 ?side3 ?side4 ?side5 ?side6 ?side7 ?side8 A1.out).mono ?_); (case side1 => repeat (first | exact (Kd.R_reads' HO366.out).2.2 | (with_reducible refine Kd.C_alloc ?_ _) | (with_reducible refine Kd.C_drewN ?_ _) | (with_reducible refine Kd.C_drew ?_))); (case side2 => exact (Kd.R_reads' HO366.out).2.1); (case side3 => repeat (first | exact (Kd.N_reads' HO372.out).2.2 | (with_reducible refine Kd.C_alloc ?_ _) | (with_reducible refine Kd.C_drewN ?_ _) | (with_reducible refine Kd.C_drew ?_))); (case side4 => exact (Kd.N_reads' HO372.out).2.1); (case side5 => exact Kd.C_nil _ _); (case side6 => exact Nat.le_refl _); (case side7 => repeat (first | exact (Kd.R_reads' HO375.out).2.2 | (with_reducible refine Kd.C_alloc ?_ _) | (with_reducible refine Kd.C_drewN ?_ _) | (with_reducible refine Kd.C_drew ?_))); (case side8 => exact (Kd.R_reads' HO375.out).2.1); rintro e w54 ⟨v377, v380, rfl, ho0, ho1, hb⟩; refine ⟨_, rfl, ?_⟩; have n0_ := Aside0.mk (Kd.R_below (by (with_reducible repeat (first | apply Kd.R_alloc | apply Kd.R_drewN | apply Kd.R_drew)); exact HO366.out) hb); have n1_ := Aside0.mk (Kd.N_mono (Kd.N_told (Kd.N_told (Kd.N_old (by (with_reducible repeat (first | apply Kd.N_alloc | apply Kd.N_drewN | apply Kd.N_drew)); exact HO372.out) hb) (Kd.N_base (Kd.S_N ho0))) (Kd.R_base ho1)) (fun _ h_ => h_.1)); have n2_ := Aside0.mk (Kd.R_below (by (with_reducible repeat (first | apply Kd.R_alloc | apply Kd.R_drewN | apply Kd.R_drew)); exact HO375.out) hb); have n3_ := Aside0.mk (Kd.N_lower (Kd.N_mono (ok' := fun k_ => some k_ ≠ (v380 : Value).ownBlock ∧ some k_ ≠ (.slice Ao52 y364.length co52 : Value).ownBlock ∧ some k_ ≠ (.slice Ao49 y370.length co49 : Value).ownBlock ∧ some k_ ≠ (.slice Ao53 y373.length co53 : Value).ownBlock) (Kd.S_N (Kd.S_bound (Kd.S_apart' ho0 (Kd.R_typed ho1) (by decide)))) (fun k_ hk_ => ⟨hk_.1.2, (Kd.fresh' (Kd.R_lt (by (with_reducible repeat (first | apply Kd.R_alloc | apply Kd.R_drewN | apply Kd.R_drew)); exact HO366.out)) k_ hk_.2.1), (Kd.fresh' (Kd.N_lt (by (with_reducible repeat (first | apply Kd.N_alloc | apply Kd.N_drewN | apply Kd.N_drew)); exact HO372.out)) k_ hk_.2.1), (Kd.fresh' (Kd.R_lt (by (with_reducible repeat (first | apply Kd.R_alloc | apply Kd.R_drewN | apply Kd.R_drew)); exact HO375.out)) k_ hk_.2.1)⟩)) (below_size (by repeat (first | (with_reducible first | exact HB.out | apply below_alloc | apply pw_below_drewN | apply below_drew1) | exact HB.out)))); have n4_ := Aside0.mk (Kd.R_lower ho1 (below_size (by repeat (first | (with_reducible first | exact HB.out | apply below_alloc | apply pw_below_drewN | apply below_drew1) | exact HB.out)))); have n5_ := Aside0.mk (below_step (by repeat (first | (with_reducible first | exact HB.out | apply below_alloc | apply pw_below_drewN | apply below_drew1) | exact HB.out)) hb); clear HO366; clear HO372; clear HO375; clear HB; have HO366 := n0_; have HO372 := n1_; have HO375 := n2_; have HO378 := n3_; have HO381 := n4_; have HB := n5_; clear n0_ n1_ n2_ n3_ n4_ n5_; (try clear hb); (try clear hb2); (try clear hk); (try clear hi); (try clear ho0); (try clear ho1)) | ((with_reducible refine gate_dst (N := 1) rfl ?_); (try (refine gate_guard (by rfl) ?_; dsimp only)); refine box_event ?hg (N := 1) ?hd (cs := #[.slice none 0 0, .slice none 0 0, .int .i64 0, .int .i64 0]) (t := 31) ?hr ?_; (case hd => rfl); (case hg => rfl); (case hr => first | (go_simp; done) | (go_simp; rfl)); intro gb384 hg w55 hbox hb; have n0_ := Aside0.mk (Kd.R_below (by (with_reducible repeat (first | apply Kd.R_alloc | apply Kd.R_drewN | apply Kd.R_drew)); exact HO366.out) hb); have n1_ := Aside0.mk (Kd.N_below (Kd.N_elderB (by (with_reducible repeat (first | apply Kd.N_alloc | apply Kd.N_drewN | apply Kd.N_drew)); exact HO372.out) gb384 (Nat.le_of_eq hg.symm)) hb); have n2_ := Aside0.mk (Kd.R_below (by (with_reducible repeat (first | apply Kd.R_alloc | apply Kd.R_drewN | apply Kd.R_drew)); exact HO375.out) hb); have n3_ := Aside0.mk (Kd.N_below (Kd.N_elderB (by (with_reducible repeat (first | apply Kd.N_alloc | apply Kd.N_drewN | apply Kd.N_drew)); exact HO378.out) gb384 (Nat.le_of_eq hg.symm)) hb); have n4_ := Aside0.mk (Kd.R_below (by (with_reducible repeat (first | apply Kd.R_alloc | apply Kd.R_drewN | apply Kd.R_drew)); exact HO381.out) hb); have n5_ := Aside0.mk (below_step (by repeat (first | (with_reducible first | exact HB.out | apply below_alloc | apply pw_below_drewN | apply below_drew1) | exact HB.out)) hb); have n6_ := Aside0.mk (hbox); have n7_ := Aside0.mk ((by rw [hg]; exact (below_size (by repeat (first | (with_reducible first | exact HB.out | apply below_alloc | apply pw_below_drewN | apply below_drew1) | exact HB.out))) : w.heap.size ≤ gb384)); have n8_ := Aside0.mk ((by rw [hg]; exact (below_size (by repeat (first | (with_reducible first | exact HB.out | apply below_alloc | apply pw_below_drewN | apply below_drew1) | exact HB.out))) : w.heap.size ≤ gb384)); clear HO366; clear HO372; clear HO375; clear HO378; clear HO381; clear HB; have HO366 := n0_; have HO372 := n1_; have HO375 := n2_; have HO378 := n3_; have HO381 := n4_; have HB := n5_; have BK384 := n6_; have GW384 := n7_; have GE384 := n8_; clear n0_ n1_ n2_ n3_ n4_ n5_ n6_ n7_ n8_; clear hb hbox hg; obtain ⟨Ao56, co56, eo56⟩ := Kd.N_slice HO378.out; subst eo56; have hcz57_0 : w55.cell? ⟨gb384, 0, none⟩ = some (.slice none 0 0) := (blk_cell BK384.out 0).trans rfl; have hcz57_1 : w55.cell? ⟨gb384, 1, none⟩ = some (.slice none 0 0) := (blk_cell BK384.out 1).trans rfl; have hcz57_2 : w55.cell? ⟨gb384, 2, none⟩ = some (.int .i64 0) := (blk_cell BK384.out 2).trans rfl; have hcz57_3 : w55.cell? ⟨gb384, 3, none⟩ = some (.int .i64 0) := (blk_cell BK384.out 3).trans rfl; have hfz57_0 := blk_frozen BK384.out 0; have hfz57_1 := blk_frozen BK384.out 1; have hfz57_2 := blk_frozen BK384.out 2; have hfz57_3 := blk_frozen BK384.out 3; obtain ⟨Ao58, co58, eo58⟩ := Kd.R_slice HO381.out; subst eo58))
    go_ret
    exact ⟨by first | rfl | (simp [errW_none, errW_some] <;> rfl) | (simp [*, errW_none, errW_some] <;> rfl), by repeat (first | (with_reducible first | exact HB.out | apply below_alloc | apply pw_below_drewN | apply below_drew1 | refine below_set ?_ GE384.out) | exact HB.out)⟩

/-! ### ladderbackref01_Wrap: function 35 -/
def ladderbackref01_Wrap.f (a0 : Int) (a1 : Int) : Option (Int) := (ladderbackref01_Right.f a0).bind fun t387 => (if t387 = true then (if a0 = 6 then (some a1) else (if a0 = 1 then (if a1 = 0 then (some 0) else (some 1)) else ((ladderbackref01_High.f a0).bind fun t388 => ((ladderbackref01_Low.f a0).bind fun t389 => (if (wrap64 ((wrap64 (t388 - t389)) + 1)) = 0 then (none) else ((ladderbackref01_Low.f a0).bind fun t390 => (if (Int.tmod a1 (wrap64 ((wrap64 (t388 - t389)) + 1))) < t390 then ((ladderbackref01_High.f a0).bind fun t391 => (if (wrap64 ((Int.tmod a1 (wrap64 ((wrap64 (t388 - t389)) + 1))) + (wrap64 ((wrap64 (t388 - t389)) + 1)))) > t391 then (some (wrap64 ((wrap64 ((Int.tmod a1 (wrap64 ((wrap64 (t388 - t389)) + 1))) + (wrap64 ((wrap64 (t388 - t389)) + 1)))) - (wrap64 ((wrap64 (t388 - t389)) + 1))))) else (some (wrap64 ((Int.tmod a1 (wrap64 ((wrap64 (t388 - t389)) + 1))) + (wrap64 ((wrap64 (t388 - t389)) + 1))))))) else ((ladderbackref01_High.f a0).bind fun t392 => (if (Int.tmod a1 (wrap64 ((wrap64 (t388 - t389)) + 1))) > t392 then (some (wrap64 ((Int.tmod a1 (wrap64 ((wrap64 (t388 - t389)) + 1))) - (wrap64 ((wrap64 (t388 - t389)) + 1))))) else (some (Int.tmod a1 (wrap64 ((wrap64 (t388 - t389)) + 1))))))))))))) else (some 0))
end Go.Proofs.Ytamajfcjcfkkjaa.PSt
end

section
/- Printed by a program of this session (wip/pg.py, over the print of the kit): functions, their Lean twins, and the proofs that the calls come to them; each under the conditions that it names. -/
namespace Go.Proofs.Ytamajfcjcfkkjaa.PSt
open Go.RowKit Go.Proofs.YtamajfcjcfkkjaaW.PrintWords Go.Proofs.YtamajfcjcfkkjaaW.PrintLast Go.Proofs.YtamajfcjcfkkjaaW.PrintMore
attribute [local go_sem] max2_int min2_int max_two min_two max_three min_three max_four min_four   -- for this text's walks alone
set_option linter.unusedVariables false
set_option linter.unusedSimpArgs false

/-! ### ladderbackref24_Begin: function 14 -/
mutual
def ladderbackref24_Begin.j0 : Nat → List (S60) → List Int → Int → List (List Int) → List (S69) → Int → Int → List (List Int) → List (S69) → Int → Int → Option ((List (List Int)) × (List (S69)) × Int × Int)
  | 0, _, _, _, _, _, _, _, _, _, _, _ => none
  | k + 1, x0, x2, x3, x394000, x394001, x394002, x394003, x404000, x404001, x404002, x404003 => if x3 > 1099511627776 then (ladderbackref24_Begin.j1 k x0 x2 1099511627776 x394000 x394001 x394002 x394003 x404000 x404001 x404002 x404003) else (ladderbackref24_Begin.j1 k x0 x2 x3 x394000 x394001 x394002 x394003 x404000 x404001 x404002 x404003)
def ladderbackref24_Begin.j1 : Nat → List (S60) → List Int → Int → List (List Int) → List (S69) → Int → Int → List (List Int) → List (S69) → Int → Int → Option ((List (List Int)) × (List (S69)) × Int × Int)
  | 0, _, _, _, _, _, _, _, _, _, _, _ => none
  | k + 1, x0, x2, x3, x394000, x394001, x394002, x394003, x404000, x404001, x404002, x404003 => if x404002 > (wrap64 (1099511627776 - x3)) then (ladderbackref24_Begin.j2 k x0 x2 x394000 x394001 x394002 x394003 x404000 x404001 1099511627776 x404003) else (ladderbackref24_Begin.j2 k x0 x2 x394000 x394001 x394002 x394003 x404000 x404001 (wrap64 (x404002 + x3)) x404003)
def ladderbackref24_Begin.j2 : Nat → List (S60) → List Int → List (List Int) → List (S69) → Int → Int → List (List Int) → List (S69) → Int → Int → Option ((List (List Int)) × (List (S69)) × Int × Int)
  | 0, _, _, _, _, _, _, _, _, _, _ => none
  | k + 1, x0, x2, x394000, x394001, x394002, x394003, x404000, x404001, x404002, x404003 => ladderbackref24_Begin.l0 k x0 x2 0 0 x394000 x394001 x394002 x394003 x404000 x404001 x404002 x404003
def ladderbackref24_Begin.l0 : Nat → List (S60) → List Int → Int → Int → List (List Int) → List (S69) → Int → Int → List (List Int) → List (S69) → Int → Int → Option ((List (List Int)) × (List (S69)) × Int × Int)
  | 0, _, _, _, _, _, _, _, _, _, _, _, _ => none
  | k + 1, x0, x2, x10, x11, x394000, x394001, x394002, x394003, x404000, x404001, x404002, x404003 => if x11 < (x0.length : Int) then (ladderbackref24_Begin.j4 k x0 x2 x10 x11 (decide (x11 < (x394000.length : Int))) x394000 x394001 x394002 x394003 x404000 x404001 x404002 x404003) else (ladderbackref24_Begin.j4 k x0 x2 x10 x11 false x394000 x394001 x394002 x394003 x404000 x404001 x404002 x404003)
def ladderbackref24_Begin.j4 : Nat → List (S60) → List Int → Int → Int → Bool → List (List Int) → List (S69) → Int → Int → List (List Int) → List (S69) → Int → Int → Option ((List (List Int)) × (List (S69)) × Int × Int)
  | 0, _, _, _, _, _, _, _, _, _, _, _, _, _ => none
  | k + 1, x0, x2, x10, x11, x40, x394000, x394001, x394002, x394003, x404000, x404001, x404002, x404003 => if x40 = true then (ladderbackref24_Begin.l1 k x0 x2 x10 x11 0 x394000 x394001 x394002 x394003 x404000 x404001 x404002 x404003) else (some (x404000, x404001, x404002, x404003))
def ladderbackref24_Begin.l1 : Nat → List (S60) → List Int → Int → Int → Int → List (List Int) → List (S69) → Int → Int → List (List Int) → List (S69) → Int → Int → Option ((List (List Int)) × (List (S69)) × Int × Int)
  | 0, _, _, _, _, _, _, _, _, _, _, _, _, _ => none
  | k + 1, x0, x2, x10, x11, x12, x394000, x394001, x394002, x394003, x404000, x404001, x404002, x404003 => if 0 ≤ x11 then (if x11 < (x394000.length : Int) then (if x12 < ((rd_L1 x394000 x11).length : Int) then (if x11 < (x0.length : Int) then (ladderbackref24_Begin.j6 k x0 x2 x10 x11 x12 (((rd_T60 x0 x11).f3) == 1) x394000 x394001 x394002 x394003 x404000 x404001 x404002 x404003) else (none)) else (ladderbackref24_Begin.j6 k x0 x2 x10 x11 x12 false x394000 x394001 x394002 x394003 x404000 x404001 x404002 x404003)) else (none)) else (none)
def ladderbackref24_Begin.j6 : Nat → List (S60) → List Int → Int → Int → Int → Bool → List (List Int) → List (S69) → Int → Int → List (List Int) → List (S69) → Int → Int → Option ((List (List Int)) × (List (S69)) × Int × Int)
  | 0, _, _, _, _, _, _, _, _, _, _, _, _, _, _ => none
  | k + 1, x0, x2, x10, x11, x12, x58, x394000, x394001, x394002, x394003, x404000, x404001, x404002, x404003 => if x58 = true then (if 0 ≤ x11 then (if x11 < (x404000.length : Int) then (if 0 ≤ x12 then (if x12 < ((rd_L1 x404000 x11).length : Int) then ((some (x404000.set (x11 : Int).toNat ((rd_L1 x404000 x11).set (x12 : Int).toNat 0) : List (List Int))).bind fun y409 => (if x10 < (x2.length : Int) then (if x11 < (x0.length : Int) then (if 0 ≤ x10 then ((ladderbackref01_Wrap.f ((rd_T60 x0 x11).f1) (rd x2 x10)).bind fun t413 => (if x12 < ((rd_L1 y409 x11).length : Int) then (ladderbackref24_Begin.l1 k x0 x2 (wrap64 (x10 + 1)) x11 (wrap64 (x12 + 1)) x394000 x394001 x394002 x394003 (y409.set (x11 : Int).toNat ((rd_L1 y409 x11).set (x12 : Int).toNat t413)) x404001 x404002 x404003) else (none))) else (none)) else (none)) else (ladderbackref24_Begin.l1 k x0 x2 (wrap64 (x10 + 1)) x11 (wrap64 (x12 + 1)) x394000 x394001 x394002 x394003 y409 x404001 x404002 x404003))) else (none)) else (none)) else (none)) else (none)) else (ladderbackref24_Begin.l0 k x0 x2 x10 (wrap64 (x11 + 1)) x394000 x394001 x394002 x394003 x404000 x404001 x404002 x404003)
end
def ladderbackref24_Begin.f (k : Nat) (l0 : List (S60)) (l1_0 : List (List Int)) (l1_1 : List (S69)) (a1_2 : Int) (a1_3 : Int) (l2 : List Int) (a3 : Int) : Option ((List (List Int)) × (List (S69)) × Int × Int) := (ladderbackref23_Clone.f k l1_0 l1_1 a1_2 a1_3).bind fun bt395 => (if a3 < 0 then (ladderbackref24_Begin.j0 k l0 l2 0 l1_0 l1_1 a1_2 a1_3 bt395.1 bt395.2.1 bt395.2.2.1 bt395.2.2.2) else (ladderbackref24_Begin.j0 k l0 l2 a3 l1_0 l1_1 a1_2 a1_3 bt395.1 bt395.2.1 bt395.2.2.1 bt395.2.2.2))
def ladderbackref24_Begin.T18 : Bool × List (List Nat × List Nat) := (true, [([], []), ([0], [0]), ([], []), ([1, 2], [1, 2]), ([3], [3]), ([], []), ([], []), ([], []), ([6, 7], [6, 7]), ([8], [8]), ([9], [9]), ([], []), ([], []), ([11, 12], [11, 12]), ([13], [13]), ([10, 14], [10, 14]), ([4, 5, 0, 1, 2, 3, 4, 5, 6, 7, 8, 9, 10, 11, 12, 13, 14, 15], [4, 5]), ([16, 15, 15, 0, 1, 2, 3, 4, 5, 6, 7, 8, 9, 10, 11, 12, 13, 14, 15], [15, 16])])
def ladderbackref24_Begin.B18 : List Nat := [0, 1, 0, 7, 15, 0, 0, 0, 192, 448, 960, 0, 0, 6144, 14336, 32704, 65535, 131071]
end Go.Proofs.Ytamajfcjcfkkjaa.PSt
end

section
/- Printed by a program of this session (wip/pg.py, over the print of the kit): functions, their Lean twins, and the proofs that the calls come to them; each under the conditions that it names. -/
namespace Go.Proofs.Ytamajfcjcfkkjaa.PSt
open Go.Proofs.Ytamajfcjcfkkjaa.Given
open Go.RowKit Go.Proofs.YtamajfcjcfkkjaaW.PrintWords Go.Proofs.YtamajfcjcfkkjaaW.PrintLast Go.Proofs.YtamajfcjcfkkjaaW.PrintMore
attribute [local go_sem] max2_int min2_int max_two min_two max_three min_three max_four min_four   -- for this text's walks alone
set_option linter.unusedVariables false
set_option linter.unusedSimpArgs false

/-! ### ladderbacklaw24_CycleBegins: function 3 -/
mutual
def ladderbacklaw24_CycleBegins.j0 : Nat → List Int → Bool → List (S104) → List (S60) → List (S62) → List (S66) → List (List Int) → List (S69) → Int → Int → Option (Bool)
  | 0, _, _, _, _, _, _, _, _, _, _ => none
  | k + 1, x2, x21, x420000, x420001, x420002, x420003, x421000, x421001, x421002, x421003 => if x21 = true then ((ladderbacklaw24_awake.f).bind fun t423 => (some t423)) else ((ladderbackref23_Clone.f k x421000 x421001 x421002 x421003).bind fun bt424 => (ladderbacklaw24_CycleBegins.l0 k x2 0 x420000 x420001 x420002 x420003 x421000 x421001 x421002 x421003 bt424.1 bt424.2.1 bt424.2.2.1 bt424.2.2.2))
def ladderbacklaw24_CycleBegins.l0 : Nat → List Int → Int → List (S104) → List (S60) → List (S62) → List (S66) → List (List Int) → List (S69) → Int → Int → List (List Int) → List (S69) → Int → Int → Option (Bool)
  | 0, _, _, _, _, _, _, _, _, _, _, _, _, _, _ => none
  | k + 1, x2, x8, x420000, x420001, x420002, x420003, x421000, x421001, x421002, x421003, x433000, x433001, x433002, x433003 => if x8 < (x2.length : Int) then (ladderbacklaw24_CycleBegins.j2 k x2 x8 (decide (x8 < 3)) x420000 x420001 x420002 x420003 x421000 x421001 x421002 x421003 x433000 x433001 x433002 x433003) else (ladderbacklaw24_CycleBegins.j2 k x2 x8 false x420000 x420001 x420002 x420003 x421000 x421001 x421002 x421003 x433000 x433001 x433002 x433003)
def ladderbacklaw24_CycleBegins.j2 : Nat → List Int → Int → Bool → List (S104) → List (S60) → List (S62) → List (S66) → List (List Int) → List (S69) → Int → Int → List (List Int) → List (S69) → Int → Int → Option (Bool)
  | 0, _, _, _, _, _, _, _, _, _, _, _, _, _, _, _ => none
  | k + 1, x2, x8, x32, x420000, x420001, x420002, x420003, x421000, x421001, x421002, x421003, x433000, x433001, x433002, x433003 => if x32 = true then (if 0 ≤ x8 then (if x8 < (x2.length : Int) then ((cycle_Begin.f x420001 x421000 x421001 x421002 x421003 x2 (rd x2 x8)).bind fun bt434 => ((ladderbackref24_Begin.f k x420001 x421000 x421001 x421002 x421003 x2 (rd x2 x8)).bind fun bt443 => ((ladderbackref23_Same.f k bt434.1 bt434.2.1 bt434.2.2.1 bt434.2.2.2 bt443.1 bt443.2.1 bt443.2.2.1 bt443.2.2.2).bind fun t451 => (if t451 = true then (ladderbacklaw24_CycleBegins.l0 k x2 (wrap64 (x8 + 1)) x420000 x420001 x420002 x420003 x421000 x421001 x421002 x421003 x433000 x433001 x433002 x433003) else (some false))))) else (none)) else (none)) else ((cycle_Begin.f x420001 x421000 x421001 x421002 x421003 x2 0).bind fun bt452 => ((ladderbackref24_Begin.f k x420001 x421000 x421001 x421002 x421003 x2 0).bind fun bt460 => ((ladderbackref23_Same.f k bt452.1 bt452.2.1 bt452.2.2.1 bt452.2.2.2 bt460.1 bt460.2.1 bt460.2.2.1 bt460.2.2.2).bind fun t468 => (if t468 = true then ((ladderbackref23_Same.f k x421000 x421001 x421002 x421003 x433000 x433001 x433002 x433003).bind fun t469 => (if t469 = true then ((ladderbacklaw24_awake.f).bind fun t470 => (some t470)) else (some false))) else (some false)))))
end
def ladderbacklaw24_CycleBegins.f (k : Nat) (l0_0 : List (S104)) (l0_1 : List (S60)) (l0_2 : List (S62)) (l0_3 : List (S66)) (l1_0 : List (List Int)) (l1_1 : List (S69)) (a1_2 : Int) (a1_3 : Int) (l2 : List Int) : Option (Bool) := (ladderbacklaw16_Few.f k l0_0 l0_1 l0_2 l0_3).bind fun t421 => (if t421 = true then ((ladderbacklaw23_Short.f k l1_0 l1_1 a1_2 a1_3).bind fun t422 => (if t422 = true then (ladderbacklaw24_CycleBegins.j0 k l2 (decide ((l2.length : Int) > 300)) l0_0 l0_1 l0_2 l0_3 l1_0 l1_1 a1_2 a1_3) else (ladderbacklaw24_CycleBegins.j0 k l2 true l0_0 l0_1 l0_2 l0_3 l1_0 l1_1 a1_2 a1_3))) else (ladderbacklaw24_CycleBegins.j0 k l2 true l0_0 l0_1 l0_2 l0_3 l1_0 l1_1 a1_2 a1_3))
def ladderbacklaw24_CycleBegins.T7 : Bool × List (List Nat × List Nat) := (true, [([], []), ([0], [0]), ([], []), ([], []), ([], []), ([], []), ([4, 5], [4, 5]), ([6], [6]), ([1, 2, 3, 7], [1, 2, 3, 7]), ([], []), ([9], [9]), ([], []), ([], []), ([], []), ([], []), ([13, 14], [13, 14]), ([15], [15]), ([10, 11, 12, 16, 8], [10, 11, 12, 16]), ([8, 17, 17], [8, 17]), ([18], [18])])
def ladderbacklaw24_CycleBegins.B7 : List Nat := [0, 1, 0, 0, 0, 0, 48, 112, 255, 0, 512, 0, 0, 0, 0, 24576, 57344, 131071, 262143, 524287]
def ladderbacklaw24_CycleBegins.T9 : Bool × List (List Nat × List Nat) := (true, [([], []), ([0], [0]), ([], []), ([], []), ([1, 2, 3], [1, 2, 3]), ([], []), ([5], [5]), ([], []), ([], []), ([6, 7, 8, 4], [6, 7, 8]), ([4, 9, 9], [4, 9]), ([10, 10], [10]), ([11], [11]), ([11], [11]), ([12, 13, 11, 11], [11, 12, 13]), ([11, 14], [11, 14]), ([15, 14], [15]), ([16, 16], [16]), ([16, 17], [16, 17]), ([18, 17, 0, 1, 2, 3, 4, 5, 6, 7, 8, 9, 10, 11, 12, 13, 14, 15, 16, 17, 18], [18])])
def ladderbacklaw24_CycleBegins.B9 : List Nat := [0, 1, 0, 0, 15, 0, 32, 0, 0, 511, 1023, 2047, 4095, 4095, 16383, 32767, 65535, 131071, 262143, 524287]
end Go.Proofs.Ytamajfcjcfkkjaa.PSt
end
