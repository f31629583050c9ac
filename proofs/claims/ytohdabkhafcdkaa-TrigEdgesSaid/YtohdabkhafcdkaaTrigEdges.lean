/- The walk of TrigEdges: for any list of truths its call returns true. -/
import Derived.Test.YtohdabkhafcdkaaTrigEdge
import Derived.Test.YtohdabkhafcdkaaReg
import Derived.Test.YtohdabkhafcdkaaWInvWords
namespace Go.Proofs.Ytohdabkhafcdkaa
open Go Go.RowKit Go.Proofs.YtohdabkhafcdkaaW.PrintWords Go.Proofs.YtohdabkhafcdkaaW.PrintLast Go.Proofs.YtohdabkhafcdkaaW.PrintMore
set_option linter.unusedVariables false
set_option linter.unusedSimpArgs false
/-- The two blocks, while the others stay. -/
structure Two (w0 : World) (A B : List Value) (W : World) : Prop where
  a : Blk.Is W w0.heap.size 24 A
  b : Blk.Is W (w0.heap.size + 1) 24 B
  below : Below w0.heap.size w0 W
theorem Two.drewN {w0 W : World} {A B : List Value} (h : Two w0 A B W) (m : Nat) : Two w0 A B (W.drewN m) := ⟨h.a.drewN m, h.b.drewN m, pw_below_drewN h.below m⟩
theorem Two.step {w0 W W' : World} {A B : List Value} (h : Two w0 A B W) (hb : Below W.heap.size W W') : Two w0 A B W' := ⟨h.a.below hb, h.b.below hb, h.below.trans (hb.mono h.below.size)⟩
theorem Two.setA {w0 W : World} {A B : List Value} (h : Two w0 A B W) (i : Nat) (v : Value) : Two w0 (A.set i v) B (W.setCell ⟨w0.heap.size, i, none⟩ v) := ⟨h.a.set i v, h.b.other i v (by omega), h.below.setCell (p := ⟨w0.heap.size, i, none⟩) (Nat.le_refl _) v⟩
theorem Two.setB {w0 W : World} {A B : List Value} (h : Two w0 A B W) (i : Nat) (v : Value) : Two w0 A (B.set i v) (W.setCell ⟨w0.heap.size + 1, i, none⟩ v) := ⟨h.a.other i v (by omega), h.b.set i v, h.below.setCell (p := ⟨w0.heap.size + 1, i, none⟩) (by simp) v⟩
theorem store_a {w0 W : World} {A B : List Value} (h : Two w0 A B W) {ops : Array Oper} {rest : List Oper} {o : Oper} {a : Act} {Q : Exit → Act → World → Prop} (hg : o.guard = none) (x y : Operand) (ho : o.op = .store 3 x y) (i : Nat) (v : Int)
    (hx : a.eval x = .pointer (some ⟨w0.heap.size, i, none⟩)) (hy : a.eval y = .int .i64 v) (u : Value) (hu : A[i]? = some u)
    (hK : ∀ W', Two w0 (A.set i (.int .i64 v)) B W' → wpList Try.prog ops Q rest (a.put o.dst undef) W') : wpList Try.prog ops Q (o :: rest) a W := by
  have hc := h.a.cell hu
  have hf := h.a.free i
  refine wpList_plain hg fun K hK' => ?_
  have := hK' _ _ (hK _ (h.setA i (.int .i64 v)))
  unfold Oper.wp execOp
  simp only [ho, hx, hy, Instr.storeAt, Instr.sureAddr, Sem.run_bind, Sem.run_pure, Result.andThen_ok]
  go_simp
  exact this
theorem store_b {w0 W : World} {A B : List Value} (h : Two w0 A B W) {ops : Array Oper} {rest : List Oper} {o : Oper} {a : Act} {Q : Exit → Act → World → Prop} (hg : o.guard = none) (x y : Operand) (ho : o.op = .store 3 x y) (i : Nat) (v : Int)
    (hx : a.eval x = .pointer (some ⟨w0.heap.size + 1, i, none⟩)) (hy : a.eval y = .int .i64 v) (u : Value) (hu : B[i]? = some u)
    (hK : ∀ W', Two w0 A (B.set i (.int .i64 v)) W' → wpList Try.prog ops Q rest (a.put o.dst undef) W') : wpList Try.prog ops Q (o :: rest) a W := by
  have hc := h.b.cell hu
  have hf := h.b.free i
  refine wpList_plain hg fun K hK' => ?_
  have := hK' _ _ (hK _ (h.setB i (.int .i64 v)))
  unfold Oper.wp execOp
  simp only [ho, hx, hy, Instr.storeAt, Instr.sureAddr, Sem.run_bind, Sem.run_pure, Result.andThen_ok]
  go_simp
  exact this
theorem Two.rowA {w0 W : World} {A B : List Value} (h : Two w0 A B W) (A2 : List Value) : Two w0 A2 B (W.setRow w0.heap.size A2.toArray) :=
  ⟨setRow_heap W _ A.toArray A2.toArray _ _ h.a, by
    have hb := h.b
    unfold Blk.Is at hb ⊢
    rw [setRow_other W _ _ _ (by omega)]
    exact hb, below_setRow h.below (Nat.le_refl _) _⟩
theorem Two.rowB {w0 W : World} {A B : List Value} (h : Two w0 A B W) (B2 : List Value) : Two w0 A B2 (W.setRow (w0.heap.size + 1) B2.toArray) :=
  ⟨by
    have ha := h.a
    unfold Blk.Is at ha ⊢
    rw [setRow_other W _ _ _ (by omega)]
    exact ha, setRow_heap W _ B.toArray B2.toArray _ _ h.b, below_setRow h.below (by omega) _⟩
/-- What stands while the two steps come up in whatever order. -/
structure Inv (w0 : World) (A A2 B B2 : List Value) (a0 : Act) (b : Nat → Bool) (a : Act) (W : World) : Prop where
  two : Two w0 (if b 4 then A2 else A) (if b 5 then B2 else B) W
  defers : a.defers = a0.defers
  size : a.tmps.size = a0.tmps.size
  elder : ∀ t, t ∉ [32, 33, 34, 35] → a.tmps[t]? = a0.tmps[t]?
  v0 : b 0 = true → a.tmps[32]? = some (.agg A.toArray)
  v1 : b 1 = true → a.tmps[33]? = some (.agg A2.toArray)
  v2 : b 2 = true → a.tmps[34]? = some (.agg B.toArray)
  v3 : b 3 = true → a.tmps[35]? = some (.agg B2.toArray)
theorem Inv.put {w0 : World} {A A2 B B2 : List Value} {a0 : Act} {b : Nat → Bool} {a : Act} {W W2 : World} (h : Inv w0 A A2 B B2 a0 b a W) (i : Nat) (t : Nat) (v : Value) (hi : (i = 0 ∧ t = 32 ∧ v = .agg A.toArray) ∨ (i = 1 ∧ t = 33 ∧ v = .agg A2.toArray) ∨ (i = 2 ∧ t = 34 ∧ v = .agg B.toArray) ∨ (i = 3 ∧ t = 35 ∧ v = .agg B2.toArray)) (hs : 36 ≤ a0.tmps.size) (hb : Below W.heap.size W W2) : Inv w0 A A2 B B2 a0 (up b i) (a.put (some t) v) W2 := by
  have hsz := h.size
  have ht : t < a.tmps.size := by omega
  have self : (a.put (some t) v).tmps[t]? = some v := by simp [Act.put, ht]
  have other : ∀ u, u ≠ t → (a.put (some t) v).tmps[u]? = a.tmps[u]? := fun u hu => by simp [Act.put, Array.getElem?_setIfInBounds_ne (Ne.symm hu)]
  refine ⟨?_, by simpa [Act.put] using h.defers, by simpa [Act.put] using h.size, fun u hu => ?_, ?_, ?_, ?_, ?_⟩
  · rw [up_ne (show 4 ≠ i by omega), up_ne (show 5 ≠ i by omega)]
    exact h.two.step hb
  · rw [other u (by simp at hu; omega)]
    exact h.elder u hu
  · intro hu
    rcases hi with ⟨rfl, rfl, rfl⟩ | ⟨rfl, rfl, rfl⟩ | ⟨rfl, rfl, rfl⟩ | ⟨rfl, rfl, rfl⟩
    · exact self
    all_goals (rw [other _ (by decide)]; exact h.v0 (by rwa [up_ne (by decide)] at hu))
  · intro hu
    rcases hi with ⟨rfl, rfl, rfl⟩ | ⟨rfl, rfl, rfl⟩ | ⟨rfl, rfl, rfl⟩ | ⟨rfl, rfl, rfl⟩
    · rw [other _ (by decide)]; exact h.v1 (by rwa [up_ne (by decide)] at hu)
    · exact self
    all_goals (rw [other _ (by decide)]; exact h.v1 (by rwa [up_ne (by decide)] at hu))
  · intro hu
    rcases hi with ⟨rfl, rfl, rfl⟩ | ⟨rfl, rfl, rfl⟩ | ⟨rfl, rfl, rfl⟩ | ⟨rfl, rfl, rfl⟩
    · rw [other _ (by decide)]; exact h.v2 (by rwa [up_ne (by decide)] at hu)
    · rw [other _ (by decide)]; exact h.v2 (by rwa [up_ne (by decide)] at hu)
    · exact self
    · rw [other _ (by decide)]; exact h.v2 (by rwa [up_ne (by decide)] at hu)
  · intro hu
    rcases hi with ⟨rfl, rfl, rfl⟩ | ⟨rfl, rfl, rfl⟩ | ⟨rfl, rfl, rfl⟩ | ⟨rfl, rfl, rfl⟩
    · rw [other _ (by decide)]; exact h.v3 (by rwa [up_ne (by decide)] at hu)
    · rw [other _ (by decide)]; exact h.v3 (by rwa [up_ne (by decide)] at hu)
    · rw [other _ (by decide)]; exact h.v3 (by rwa [up_ne (by decide)] at hu)
    · exact self
theorem Inv.rowA {w0 : World} {A A2 B B2 : List Value} {a0 : Act} {b : Nat → Bool} {a : Act} {W : World} (h : Inv w0 A A2 B B2 a0 b a W) (h4 : b 4 = false) : Inv w0 A A2 B B2 a0 (up b 4) (a.put none undef) (W.setRow w0.heap.size A2.toArray) := by
  refine ⟨?_, h.defers, h.size, h.elder, fun hu => h.v0 (by rwa [up_ne (by decide)] at hu), fun hu => h.v1 (by rwa [up_ne (by decide)] at hu), fun hu => h.v2 (by rwa [up_ne (by decide)] at hu), fun hu => h.v3 (by rwa [up_ne (by decide)] at hu)⟩
  rw [up_self, up_ne (by decide)]
  exact h.two.rowA A2
theorem Inv.rowB {w0 : World} {A A2 B B2 : List Value} {a0 : Act} {b : Nat → Bool} {a : Act} {W : World} (h : Inv w0 A A2 B B2 a0 b a W) : Inv w0 A A2 B B2 a0 (up b 5) (a.put none undef) (W.setRow (w0.heap.size + 1) B2.toArray) := by
  refine ⟨?_, h.defers, h.size, h.elder, fun hu => h.v0 (by rwa [up_ne (by decide)] at hu), fun hu => h.v1 (by rwa [up_ne (by decide)] at hu), fun hu => h.v2 (by rwa [up_ne (by decide)] at hu), fun hu => h.v3 (by rwa [up_ne (by decide)] at hu)⟩
  rw [up_self, up_ne (by decide)]
  exact h.two.rowB B2
theorem eval_tmp {a : Act} {t : Nat} {v : Value} (h : a.tmps[t]? = some v) : a.eval (.tmp t) = v := by simp [Act.eval, h]
theorem Step7 (x0 x1 x2 : Int) (w : World) : Calls Try.prog 9 #[.int .i64 7, .agg (instL x0 x1 x2 0 0 0 0 0 0 0).toArray] w fun e w' => e = .returned (.agg (instL x0 (edge 7 x0 x2) (truth x0) 0 0 0 0 0 0 0).toArray) ∧ Below w.heap.size w w' := Step_calls 7 x0 x1 x2 0 0 0 0 0 0 0 w
theorem Step8 (x0 x1 x2 : Int) (w : World) : Calls Try.prog 9 #[.int .i64 8, .agg (instL x0 x1 x2 0 0 0 0 0 0 0).toArray] w fun e w' => e = .returned (.agg (instL x0 (edge 8 x0 x2) (truth x0) 0 0 0 0 0 0 0).toArray) ∧ Below w.heap.size w w' := Step_calls 8 x0 x1 x2 0 0 0 0 0 0 0 w
theorem Inv.frame {w0 : World} {A A2 B B2 : List Value} {a0 : Act} {b : Nat → Bool} {a : Act} {W : World} (h : Inv w0 A A2 B B2 a0 b a W) (hb : ∀ j, j < 6 → b j = true) (hs : 36 ≤ a0.tmps.size) :
    a = { tmps := (((a0.tmps.setIfInBounds 32 (.agg A.toArray)).setIfInBounds 33 (.agg A2.toArray)).setIfInBounds 34 (.agg B.toArray)).setIfInBounds 35 (.agg B2.toArray), defers := a0.defers } ∧ Two w0 A2 B2 W := by
  refine ⟨?_, ?_⟩
  · obtain ⟨ta, da⟩ := a
    have hd : da = a0.defers := h.defers
    subst hd
    congr 1
    have hz := h.size
    simp only at hz
    apply Array.ext_getElem?
    intro t
    by_cases h5 : t = 35
    · subst h5
      rw [Array.getElem?_setIfInBounds_self_of_lt (by simp; omega)]
      exact h.v3 (hb 3 (by decide))
    rw [Array.getElem?_setIfInBounds_ne (Ne.symm h5)]
    by_cases h4 : t = 34
    · subst h4
      rw [Array.getElem?_setIfInBounds_self_of_lt (by simp; omega)]
      exact h.v2 (hb 2 (by decide))
    rw [Array.getElem?_setIfInBounds_ne (Ne.symm h4)]
    by_cases h3 : t = 33
    · subst h3
      rw [Array.getElem?_setIfInBounds_self_of_lt (by simp; omega)]
      exact h.v1 (hb 1 (by decide))
    rw [Array.getElem?_setIfInBounds_ne (Ne.symm h3)]
    by_cases h2 : t = 32
    · subst h2
      rw [Array.getElem?_setIfInBounds_self_of_lt (by omega)]
      exact h.v0 (hb 0 (by decide))
    rw [Array.getElem?_setIfInBounds_ne (Ne.symm h2)]
    exact h.elder t (by simp; omega)
  · have := h.two
    rw [hb 4 (by decide), hb 5 (by decide)] at this
    exact this
theorem load_l {w0 W : World} {ad : Addr} {v : Value} {A B : List Value} (h : Two w0 A B W) (hv : w0.cell? ad = some v) : W.cell? ad = some v := pw_cell_below h.below hv
set_option maxHeartbeats 4000000 in
theorem TrigEdges_walk (A : Option Addr) (c : Nat) (l : List Bool) (w : World) (hC : Kd.C Kd.bool w A l.length l) (hle : l.length ≤ c) (wf : ∀ a ∈ l, True) :
    Calls Try.prog 4 #[.slice A l.length c] w fun e w' => e = .returned (.bool true) ∧ Below w.heap.size w w' := by
  have HC := Aside0.mk hC
  clear hC wf
  by_cases h200 : l.length > 200
  · go_enter Try.func4, Try.ntmps4
    go_wp2_with fail
    refine (awake_calls w).mono ?_
    rintro e w1 ⟨rfl, hb⟩
    go_wp2
    go_ret
    exact ⟨rfl, hb⟩
  have hi : (Try.prog.info? 24).map (·.size) = some 10 := by kernel_rfl
  have T0 : Aside0 (Two w (instL 0 0 0 0 0 0 0 0 0 0) (instL 0 0 0 0 0 0 0 0 0 0) ((w.alloc (.cells (instL 0 0 0 0 0 0 0 0 0 0).toArray 24)).alloc (.cells (instL 0 0 0 0 0 0 0 0 0 0).toArray 24))) := ⟨(Blk.Is.new w _ _).alloc _, mid_block2 w _ _ _, below_2 w _ _⟩
  unfold instL at T0
  go_enter Try.func4, Try.ntmps4
  go_wp2_with fail
  go_loopw [5, 6, 7] (fun u d i wr => ∃ j : Nat, j ≤ l.length ∧ i = .int .i64 j ∧ u = .int .i64 (edges (l.take j)).1 ∧ d = .int .i64 (edges (l.take j)).2.1 ∧ ∃ a0 a1 b0 b1 : Int, Aside0 (Two w (instL a0 a1 (bi (edges (l.take j)).2.2) 0 0 0 0 0 0 0) (instL b0 b1 (bi (edges (l.take j)).2.2) 0 0 0 0 0 0 0) wr)) (fun _ _ i _ => l.length - (intOf i).toNat)
  case atStart => exact ⟨0, Nat.zero_le _, rfl, rfl, rfl, 0, 0, 0, 0, T0⟩
  case round =>
    clear T0
    obtain ⟨j, hj, rfl, rfl, rfl, a0, a1, b0, b1, HT⟩ := hrel
    by_cases hlt : j < l.length
    · obtain ⟨ad, rfl, hcs⟩ := C_bools HC.out (by omega)
      have hcj := hcs j hlt
      clear hcs
      have hlim := edges_lim (l.take j)
      have hst := edges_take l j hlt
      have hlen : (l.take j).length = j := by simp; omega
      rw [hlen] at hlim
      generalize edges (l.take j) = s at *
      obtain ⟨u, d, p⟩ := s
      simp only at hlim HT ⊢
      cases hb : l[j] with
      | true =>
        rw [hb] at hcj hst
        go_wp2_with first
          | ((with_reducible refine gate_store (t := 3) (p := 21) (v := .const (.int .i64 0)) rfl ?_); refine store_a HT.out rfl (.tmp 21) _ rfl 0 0 rfl rfl (.int .i64 a0) rfl ?_; intro W1 h1; have HT1 := Aside0.mk h1; clear h1)
          | ((with_reducible refine gate_store (t := 3) (p := 23) (v := .const (.int .i64 0)) rfl ?_); refine store_b HT1.out rfl (.tmp 23) _ rfl 0 0 rfl rfl (.int .i64 b0) rfl ?_; intro W2 h2; have HT2 := Aside0.mk h2; clear h2; have hlj := load_l HT2.out hcj)
          | ((with_reducible refine gate_store (t := 3) (p := 29) (v := .const (.int .i64 5)) rfl ?_); refine store_a HT2.out rfl (.tmp 29) _ rfl 0 5 rfl rfl (.int .i64 0) rfl ?_; intro W3 h3; have HT3 := Aside0.mk h3; clear h3)
          | ((with_reducible refine gate_store (t := 3) (p := 31) (v := .const (.int .i64 1)) rfl ?_); refine store_b HT3.out rfl (.tmp 31) _ rfl 0 1 rfl rfl (.int .i64 0) rfl ?_; intro W4 h4; have HT4 := Aside0.mk h4; clear h4)
        refine wp_region_last (S := fun _ => True) (ds := []) (by kernel_rfl) ?_
        refine inv_at (T := (true, [([], []), ([0], [0]), ([], []), ([2, 1], [2]), ([1, 3, 0, 1], [1]), ([3, 4, 0, 1, 2, 3, 4], [3])])) (B := [0, 1, 0, 7, 15, 31]) [0, 1, 2, 3, 4, 5] (Inv w (instL 5 a1 (bi p) 0 0 0 0 0 0 0) (instL 5 (edge 7 5 (bi p)) (truth 5) 0 0 0 0 0 0 0) (instL 1 b1 (bi p) 0 0 0 0 0 0 0) (instL 1 (edge 8 1 (bi p)) (truth 1) 0 0 0 0 0 0 0)) (by kernel_rfl) (by kernel_rfl) (by kernel_rfl) (by kernel_rfl) ?h0 ?hs ?hend
        case h0 => exact ⟨HT4.out.drewN 1, rfl, rfl, fun _ _ => rfl, (fun h => by cases h), (fun h => by cases h), (fun h => by cases h), (fun h => by cases h)⟩
        case hs =>
          refine steps_cons ?_ (steps_cons ?_ (steps_cons ?_ (steps_cons ?_ (steps_cons ?_ (steps_cons ?_ steps_nil)))))
          · intro b a W hI hb hon hoff
            have e3 := hI.elder 3 (by decide)
            have h4 := hoff 4 (by kernel_rfl)
            have h2 := hI.two.a
            rw [h4] at h2
            refine ⟨_, rfl, fun K hK => ?_⟩
            rw [if_pos (by rfl)]
            exact wp_load_row 24 (.tmp 3) rfl w.heap.size (eval_tmp (e3.trans rfl)) 24 _ (0, 0) _ h2 Try.underlying24 rfl (by rw [hi]; rfl) (hK.out _ _ (hI.put 0 32 _ (.inl ⟨rfl, rfl, rfl⟩) (Nat.le_of_ble_eq_true rfl) (Below.refl _ _)))
          · intro b a W hI hb hon hoff
            have e32 := hI.v0 (hon 0 (by kernel_rfl))
            refine ⟨_, rfl, fun K hK => ?_⟩
            refine goes_ Try.func9 (by kernel_rfl) rfl #[.int .i64 7, .agg (instL 5 a1 (bi p) 0 0 0 0 0 0 0).toArray] (by rfl) rfl rfl (by simp [Act.eval, e32]) ?_
            refine (Step7 5 a1 (bi p) W).mono ?_
            rintro e w2 ⟨rfl, hb2⟩
            exact ⟨_, rfl, hK.out _ _ (hI.put 1 33 _ (.inr (.inl ⟨rfl, rfl, rfl⟩)) (Nat.le_of_ble_eq_true rfl) hb2)⟩
          · intro b a W hI hb hon hoff
            have e4 := hI.elder 4 (by decide)
            have h4 := hoff 5 (by kernel_rfl)
            have h2 := hI.two.b
            rw [h4] at h2
            refine ⟨_, rfl, fun K hK => ?_⟩
            rw [if_pos (by rfl)]
            exact wp_load_row 24 (.tmp 4) rfl (w.heap.size + 1) (eval_tmp (e4.trans rfl)) 24 _ (0, 0) _ h2 Try.underlying24 rfl (by rw [hi]; rfl) (hK.out _ _ (hI.put 2 34 _ (.inr (.inr (.inl ⟨rfl, rfl, rfl⟩))) (Nat.le_of_ble_eq_true rfl) (Below.refl _ _)))
          · intro b a W hI hb hon hoff
            have e34 := hI.v2 (hon 2 (by kernel_rfl))
            refine ⟨_, rfl, fun K hK => ?_⟩
            refine goes_ Try.func9 (by kernel_rfl) rfl #[.int .i64 8, .agg (instL 1 b1 (bi p) 0 0 0 0 0 0 0).toArray] (by rfl) rfl rfl (by simp [Act.eval, e34]) ?_
            refine (Step8 1 b1 (bi p) W).mono ?_
            rintro e w2 ⟨rfl, hb2⟩
            exact ⟨_, rfl, hK.out _ _ (hI.put 3 35 _ (.inr (.inr (.inr ⟨rfl, rfl, rfl⟩))) (Nat.le_of_ble_eq_true rfl) hb2)⟩
          · intro b a W hI hb hon hoff
            have e3 := hI.elder 3 (by decide)
            have e33 := hI.v1 (hon 1 (by kernel_rfl))
            have h2 := hI.two.a
            rw [hb] at h2
            refine ⟨_, rfl, fun K hK => ?_⟩
            rw [if_pos (by rfl)]
            exact wp_store_row 24 (.tmp 3) (.tmp 33) rfl w.heap.size _ (eval_tmp (e3.trans rfl)) (eval_tmp e33) 24 _ h2 (by rw [hi]; rfl) rfl (by kernel_rfl) (hK.out _ _ (hI.rowA hb))
          · intro b a W hI hb hon hoff
            have e4 := hI.elder 4 (by decide)
            have e35 := hI.v3 (hon 3 (by kernel_rfl))
            have h2 := hI.two.b
            rw [hb] at h2
            refine ⟨_, rfl, fun K hK => ?_⟩
            rw [if_pos (by rfl)]
            exact wp_store_row 24 (.tmp 4) (.tmp 35) rfl (w.heap.size + 1) _ (eval_tmp (e4.trans rfl)) (eval_tmp e35) 24 _ h2 (by rw [hi]; rfl) rfl (by kernel_rfl) (hK.out _ _ hI.rowB)
        case hend =>
          intro b a W hall hI
          obtain ⟨rfl, hTW⟩ := hI.frame (fun j hj => hall j (by rcases (by omega : j = 0 ∨ j = 1 ∨ j = 2 ∨ j = 3 ∨ j = 4 ∨ j = 5) with rfl | rfl | rfl | rfl | rfl | rfl <;> rfl)) (Nat.le_of_ble_eq_true rfl)
          clear hI hall
          have HTW := Aside0.mk hTW
          have d1 := hTW.a.cell (i := 1) (v := .int .i64 (edge 7 5 (bi p))) rfl
          have d2 := hTW.b.cell (i := 1) (v := .int .i64 (edge 8 1 (bi p))) rfl
          clear hTW
          simp only [Exit.then, Act.put, List.setIfInBounds_toArray, List.set_cons_succ, List.set_cons_zero]
          go_at_K
          go_wp2_with fail
          go_region
          (try simp only [Exit.then])
          (try go_at_K)
          go_wp2_with fail
          refine ⟨⟨j + 1, by omega, rfl, ?_, ?_, 5, edge 7 5 (bi p), 1, edge 8 1 (bi p), ⟨?_⟩⟩, by simp [intOf]; omega⟩
          · rw [hst]
            congr 1
            clear HTW d1 d2
            cases p <;> simp [edgeStep, edge, bi, wrap64] <;> omega
          · rw [hst]
            congr 1
            clear HTW d1 d2
            cases p <;> simp [edgeStep, edge, bi, wrap64] <;> omega
          · rw [hst]
            exact HTW.out.drewN 1
      | false =>
        rw [hb] at hcj hst
        go_wp2_with first
          | ((with_reducible refine gate_store (t := 3) (p := 21) (v := .const (.int .i64 0)) rfl ?_); refine store_a HT.out rfl (.tmp 21) _ rfl 0 0 rfl rfl (.int .i64 a0) rfl ?_; intro W1 h1; have HT1 := Aside0.mk h1; clear h1)
          | ((with_reducible refine gate_store (t := 3) (p := 23) (v := .const (.int .i64 0)) rfl ?_); refine store_b HT1.out rfl (.tmp 23) _ rfl 0 0 rfl rfl (.int .i64 b0) rfl ?_; intro W2 h2; have HT2 := Aside0.mk h2; clear h2; have hlj := load_l HT2.out hcj)
        refine wp_region_last (S := fun _ => True) (ds := []) (by kernel_rfl) ?_
        refine inv_at (T := (true, [([], []), ([0], [0]), ([], []), ([2, 1], [2]), ([1, 3, 0, 1], [1]), ([3, 4, 0, 1, 2, 3, 4], [3])])) (B := [0, 1, 0, 7, 15, 31]) [0, 1, 2, 3, 4, 5] (Inv w (instL 0 a1 (bi p) 0 0 0 0 0 0 0) (instL 0 (edge 7 0 (bi p)) (truth 0) 0 0 0 0 0 0 0) (instL 0 b1 (bi p) 0 0 0 0 0 0 0) (instL 0 (edge 8 0 (bi p)) (truth 0) 0 0 0 0 0 0 0)) (by kernel_rfl) (by kernel_rfl) (by kernel_rfl) (by kernel_rfl) ?h0 ?hs ?hend
        case h0 => exact ⟨HT2.out.drewN 1, rfl, rfl, fun _ _ => rfl, (fun h => by cases h), (fun h => by cases h), (fun h => by cases h), (fun h => by cases h)⟩
        case hs =>
          refine steps_cons ?_ (steps_cons ?_ (steps_cons ?_ (steps_cons ?_ (steps_cons ?_ (steps_cons ?_ steps_nil)))))
          · intro b a W hI hb hon hoff
            have e3 := hI.elder 3 (by decide)
            have h4 := hoff 4 (by kernel_rfl)
            have h2 := hI.two.a
            rw [h4] at h2
            refine ⟨_, rfl, fun K hK => ?_⟩
            rw [if_pos (by rfl)]
            exact wp_load_row 24 (.tmp 3) rfl w.heap.size (eval_tmp (e3.trans rfl)) 24 _ (0, 0) _ h2 Try.underlying24 rfl (by rw [hi]; rfl) (hK.out _ _ (hI.put 0 32 _ (.inl ⟨rfl, rfl, rfl⟩) (Nat.le_of_ble_eq_true rfl) (Below.refl _ _)))
          · intro b a W hI hb hon hoff
            have e32 := hI.v0 (hon 0 (by kernel_rfl))
            refine ⟨_, rfl, fun K hK => ?_⟩
            refine goes_ Try.func9 (by kernel_rfl) rfl #[.int .i64 7, .agg (instL 0 a1 (bi p) 0 0 0 0 0 0 0).toArray] (by rfl) rfl rfl (by simp [Act.eval, e32]) ?_
            refine (Step7 0 a1 (bi p) W).mono ?_
            rintro e w2 ⟨rfl, hb2⟩
            exact ⟨_, rfl, hK.out _ _ (hI.put 1 33 _ (.inr (.inl ⟨rfl, rfl, rfl⟩)) (Nat.le_of_ble_eq_true rfl) hb2)⟩
          · intro b a W hI hb hon hoff
            have e4 := hI.elder 4 (by decide)
            have h4 := hoff 5 (by kernel_rfl)
            have h2 := hI.two.b
            rw [h4] at h2
            refine ⟨_, rfl, fun K hK => ?_⟩
            rw [if_pos (by rfl)]
            exact wp_load_row 24 (.tmp 4) rfl (w.heap.size + 1) (eval_tmp (e4.trans rfl)) 24 _ (0, 0) _ h2 Try.underlying24 rfl (by rw [hi]; rfl) (hK.out _ _ (hI.put 2 34 _ (.inr (.inr (.inl ⟨rfl, rfl, rfl⟩))) (Nat.le_of_ble_eq_true rfl) (Below.refl _ _)))
          · intro b a W hI hb hon hoff
            have e34 := hI.v2 (hon 2 (by kernel_rfl))
            refine ⟨_, rfl, fun K hK => ?_⟩
            refine goes_ Try.func9 (by kernel_rfl) rfl #[.int .i64 8, .agg (instL 0 b1 (bi p) 0 0 0 0 0 0 0).toArray] (by rfl) rfl rfl (by simp [Act.eval, e34]) ?_
            refine (Step8 0 b1 (bi p) W).mono ?_
            rintro e w2 ⟨rfl, hb2⟩
            exact ⟨_, rfl, hK.out _ _ (hI.put 3 35 _ (.inr (.inr (.inr ⟨rfl, rfl, rfl⟩))) (Nat.le_of_ble_eq_true rfl) hb2)⟩
          · intro b a W hI hb hon hoff
            have e3 := hI.elder 3 (by decide)
            have e33 := hI.v1 (hon 1 (by kernel_rfl))
            have h2 := hI.two.a
            rw [hb] at h2
            refine ⟨_, rfl, fun K hK => ?_⟩
            rw [if_pos (by rfl)]
            exact wp_store_row 24 (.tmp 3) (.tmp 33) rfl w.heap.size _ (eval_tmp (e3.trans rfl)) (eval_tmp e33) 24 _ h2 (by rw [hi]; rfl) rfl (by kernel_rfl) (hK.out _ _ (hI.rowA hb))
          · intro b a W hI hb hon hoff
            have e4 := hI.elder 4 (by decide)
            have e35 := hI.v3 (hon 3 (by kernel_rfl))
            have h2 := hI.two.b
            rw [hb] at h2
            refine ⟨_, rfl, fun K hK => ?_⟩
            rw [if_pos (by rfl)]
            exact wp_store_row 24 (.tmp 4) (.tmp 35) rfl (w.heap.size + 1) _ (eval_tmp (e4.trans rfl)) (eval_tmp e35) 24 _ h2 (by rw [hi]; rfl) rfl (by kernel_rfl) (hK.out _ _ hI.rowB)
        case hend =>
          intro b a W hall hI
          obtain ⟨rfl, hTW⟩ := hI.frame (fun j hj => hall j (by rcases (by omega : j = 0 ∨ j = 1 ∨ j = 2 ∨ j = 3 ∨ j = 4 ∨ j = 5) with rfl | rfl | rfl | rfl | rfl | rfl <;> rfl)) (Nat.le_of_ble_eq_true rfl)
          clear hI hall
          have HTW := Aside0.mk hTW
          have d1 := hTW.a.cell (i := 1) (v := .int .i64 (edge 7 0 (bi p))) rfl
          have d2 := hTW.b.cell (i := 1) (v := .int .i64 (edge 8 0 (bi p))) rfl
          clear hTW
          simp only [Exit.then, Act.put, List.setIfInBounds_toArray, List.set_cons_succ, List.set_cons_zero]
          go_at_K
          go_wp2_with fail
          go_region
          (try simp only [Exit.then])
          (try go_at_K)
          go_wp2_with fail
          refine ⟨⟨j + 1, by omega, rfl, ?_, ?_, 0, edge 7 0 (bi p), 0, edge 8 0 (bi p), ⟨?_⟩⟩, by simp [intOf]; omega⟩
          · rw [hst]
            congr 1
            clear HTW d1 d2
            cases p <;> simp [edgeStep, edge, bi, wrap64] <;> omega
          · rw [hst]
            congr 1
            clear HTW d1 d2
            cases p <;> simp [edgeStep, edge, bi, wrap64] <;> omega
          · rw [hst]
            exact HTW.out.drewN 1
    · go_wp2_with fail
      refine (Edges_calls A c l wr (Kd.C_below HC.out HT.out.below) (by omega)).mono ?_
      rintro e w1 ⟨rfl, m, rfl⟩
      have hall : l.take j = l := List.take_of_length_le (by omega)
      rw [hall]
      have hlim := edges_lim l
      have hT := HT.out.below
      generalize hE : edges l = E at *
      obtain ⟨u, d, p⟩ := E
      simp only at hlim
      clear HT
      cases p
      · obtain rfl : u = d := by have := hlim.2.2.2.2; simp only [bi] at this; omega
        obtain ⟨q1, q2, q3, q4, _⟩ := hlim
        have z : wrap64 (u - u) = 0 := by unfold wrap64; omega
        go_wp2_with fail
        refine (awake_calls _).mono ?_
        rintro e w5 ⟨rfl, hb5⟩
        go_wp2_with fail
        go_ret
        exact ⟨rfl, (pw_below_drewN hT m).trans (hb5.mono (below_size (pw_below_drewN hT m)))⟩
      · obtain rfl : u = d + 1 := by have := hlim.2.2.2.2; simp only [bi] at this; omega
        obtain ⟨q1, q2, q3, q4, _⟩ := hlim
        have z : wrap64 (d + 1 - d) = 1 := by unfold wrap64; omega
        go_wp2_with fail
        refine (awake_calls _).mono ?_
        rintro e w5 ⟨rfl, hb5⟩
        go_wp2_with fail
        go_ret
        exact ⟨rfl, (pw_below_drewN hT m).trans (hb5.mono (below_size (pw_below_drewN hT m)))⟩
end Go.Proofs.Ytohdabkhafcdkaa
